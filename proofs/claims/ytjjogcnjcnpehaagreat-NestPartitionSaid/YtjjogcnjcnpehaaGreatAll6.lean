import Derived.Test.YtjjogcnjcnpehaaGreatAll3
import Derived.Test.YtjjogcnjcnpehaaGreatAll5
import Derived.Test.YtjjogcnjcnpehaaGreatFlyT
import Derived.Test.YtjjogcnjcnpehaaGreatAll2
import Derived.Test.YtjjogcnjcnpehaaGreatFlyMap

/- natcut.order, slices.SortFunc, Compact and Clip over pairs, natcut.pairs. -/
namespace Go.Proofs.YtjjogcnjcnpehaaGreat
open Go Go.RowKit Fly
set_option linter.unusedVariables false
set_option linter.unusedSimpArgs false
set_option linter.unusedSectionVars false
section
variable {α : Type} [DecidableEq α]
theorem cptk_put {l d : List α} {i j : Nat} (hj : j < l.length) (hij : i < j) (hd : d.length = l.length) (h0 : d.take i = cpt (l.take j)) (hdr : d.drop (j - 1) = l.drop (j - 1)) (hne : l[j] ≠ l[j - 1]'(by omega)) :
    (d.set i l[j]).take (i + 1) = cpt (l.take (j + 1)) ∧ (d.set i l[j]).drop j = l.drop j := by
  refine ⟨?_, ?_⟩
  · rw [jG (by omega) hj, if_neg (fun e => hne e.symm), ← h0, List.take_succ_eq_append_getElem (show i < (d.set i l[j]).length by simp; omega), List.getElem_set_self, List.take_set_of_le (Nat.le_refl _)]
  · rw [List.drop_set_of_lt hij]
    have := congrArg (List.drop 1) hdr
    rw [List.drop_drop, List.drop_drop, show j - 1 + 1 = j by omega] at this;exact this
theorem cptk_pass {l d : List α} {i j : Nat} (hj : j < l.length) (hj0 : 0 < j) (h0 : d.take i = cpt (l.take j)) (hdr : d.drop (j - 1) = l.drop (j - 1)) (he : l[j] = l[j - 1]'(by omega)) : d.take i = cpt (l.take (j + 1)) ∧ d.drop j = l.drop j := by
  refine ⟨by rw [jG hj0 hj, if_pos he.symm]; exact h0, ?_⟩;have := congrArg (List.drop 1) hdr
  rw [List.drop_drop, List.drop_drop, show j - 1 + 1 = j by omega] at this;exact this
theorem dropk_get {l d : List α} {i j : Nat} (hd : d.length = l.length) (h : d.drop i = l.drop i) (hij : i ≤ j) (hj : j < l.length) : d[j]'(by omega) = l[j] := by
  have := congrArg (fun x => x[j - i]?) h
  simp only [List.getElem?_drop, show i + (j - i) = j by omega] at this;rw [List.getElem?_eq_getElem (by omega), List.getElem?_eq_getElem hj] at this;exact Option.some.inj this
theorem cptk_zero {enc : α → List Value} {sz : Nat} (hs : ∀ x, (enc x).length = sz) {d : List α} {i : Nat} (hi : i ≤ d.length) (sp ys : List Value) (hy : ys.length = (d.length - i) * sz) : gH (d.flatMap enc ++ sp) (i * sz) ys = (d.take i).flatMap enc ++ (ys ++ sp) := by
  have e : d.flatMap enc ++ sp = (d.take i).flatMap enc ++ ((d.drop i).flatMap enc ++ sp) := by rw [← List.append_assoc, ← List.flatMap_append, List.take_append_drop]
  rw [e];exact iL ys _ _ _ _ (by rw [dR enc hs, List.length_take, Nat.min_eq_left hi]) (by rw [dR enc hs, hy, List.length_drop])
end
set_option maxRecDepth 100000 in
theorem eqPr (x y : Pr) (w : World) : (Op.equalIn 10000 95 (.agg (dU x).toArray) (.agg (dU y).toArray)).run Tryz.prog w = .ok (decide (x = y)) w := by
  have hf : Tryz.prog.fieldsOf 95 = (match Tryz.prog.underlying 95 with | some (.struct fs) => fs | _ => #[]) := rfl
  rw [Tryz.underlying95] at hf;rw [run_equalIn_struct (P := Tryz.prog) w 9999 95 _ _ (by rw [hf]; exact Tryz.underlying95) Tryz.stoodInHeld95, hf];obtain ⟨a, b⟩ := x
  obtain ⟨a', b'⟩ := y
  have ii : ∀ (k k' : IntKind) (p q : Int) (T : TypeId) (v : World), Tryz.prog.underlying T = some (.int k') → (Op.equalIn 9999 T (.int k p) (.int k q)).run Tryz.prog v = .ok (p == q) v := fun k k' p q T v h => run_equalIn_int v 9998 T k k' p q h
  simp only [Op.eqFields, dU, part, Sem.run_bind, Sem.run_ite, Tryz.isAgg3, Result.andThen_ok, Sem.run_pure, ne_eq, Bool.false_eq_true, if_false];simp [ii _ _ _ _ _ _ Tryz.underlying3]
  by_cases h1 : a = a' <;> by_cases h2 : b = b' <;> simp [h1, h2]
theorem raw_next {l : List Arc} {i : Nat} (hi : i < l.length) : iG (l.take (i + 1)) = iG (l.take i) ++ (if l[i].src ≠ l[i].dst then [jZ l[i]] else []) := by
  unfold iG
  rw [List.take_succ_eq_append_getElem hi, List.filter_append, List.map_append]
  congr 1
  by_cases h : l[i].src = l[i].dst <;> simp [h]
theorem raw_len (l : List Arc) : (iG l).length ≤ l.length := by
  unfold iG; rw [List.length_map]; exact List.length_filter_le _ _
theorem raw_good {n : Nat} {l : List Arc} (hg : ∀ k (hk : k < l.length), 0 ≤ l[k].src ∧ l[k].src < (n : Int) ∧ 0 ≤ l[k].dst ∧ l[k].dst < (n : Int)) : ∀ a ∈ l, (0 ≤ a.src ∧ a.src < n) ∧ 0 ≤ a.dst ∧ a.dst < n := fun a ha => by
  obtain ⟨k, hk, rfl⟩ := List.mem_iff_getElem.1 ha
  have := hg k hk
  omega
theorem raw_ok {n : Nat} {l : List Arc} (hn : n ≤ 1024) (hg : ∀ k (hk : k < l.length), 0 ≤ l[k].src ∧ l[k].src < (n : Int) ∧ 0 ≤ l[k].dst ∧ l[k].dst < (n : Int)) : ∀ p ∈ iG l, POk p := fun p hp => by
  obtain ⟨a, ha, _, rfl⟩ := k8.1 hp
  have := raw_good hg a ha
  unfold POk jZ
  simp only;omega
theorem flat_toP (l : List F20) : l.flatMap (fun x => dU (toP x)) = (l.map toP).flatMap dU := by rw [List.flatMap_map]
set_option maxRecDepth 100000 in
set_option maxHeartbeats 4000000 in
theorem order_spec (x y : Pr) (w : World) (hx : POk x) (hy : POk y) : Meets Tryz.prog 56 [.agg (dU x).toArray, .agg (dU y).toArray] w [] (fun u _ => u = .int .i64 (ordP x y)) := by
 unfold POk at hx hy
 refine bJ Tryz.func56 rfl Tryz.ntmps56 rfl Owns.nil ?_;refine aK fun K1 kh1 => ?_;refine aB ?_;refine aR rfl rfl rfl (cZ rfl rfl fun b2 => ?_);refine aR rfl rfl rfl (cZ rfl rfl fun b3 => ?_);refine aA rfl rfl rfl (aF rfl) ?_;refine aJ ?_;refine aL (kh1 _ _ ?_);clear kh1;refine aK fun K2 kh2 => ?_;refine aK fun K3 kh3 => ?_;refine aB ?_;refine aA rfl rfl rfl (aQ kM rfl) ?_;refine aA rfl rfl rfl (aM Tryz.isAgg3 rfl (rdA rfl)) ?_;refine aA rfl rfl rfl (aQ kM rfl) ?_;refine aA rfl rfl rfl (aM Tryz.isAgg3 rfl (rdA rfl)) ?_;refine aA rfl rfl rfl (c6 rfl rfl) ?_;refine aJ ?_;refine aL (kh3 _ _ ?_);clear kh3;refine aZ rfl (fun c9 => ?_) (fun c9 => ?_)
 · refine aK fun K4 kh4 => ?_;refine aB ?_;refine aA rfl rfl rfl (aQ kM rfl) ?_;refine aA rfl rfl rfl (aM Tryz.isAgg3 rfl (rdA rfl)) ?_;refine aA rfl rfl rfl (aQ kM rfl) ?_;refine aA rfl rfl rfl (aM Tryz.isAgg3 rfl (rdA rfl)) ?_;refine aA rfl rfl rfl (fV rfl rfl _ (aT (by omega))) ?_;refine aA rfl rfl rfl (aF rfl) ?_;refine aJ ?_;refine aL (kh4 _ _ ?_);clear kh4;refine a7 ?_;refine bT ?_;exact bP [] Tryz.results56 rfl aI (by rw [ordP, if_pos c9])
 · refine aW ?_;refine aL (kh2 _ _ ?_);clear kh2;refine aK fun K5 kh5 => ?_;refine aB ?_;refine aA rfl rfl rfl (aQ fa95_1 rfl) ?_;refine aA rfl rfl rfl (aM Tryz.isAgg3 rfl (rdA rfl)) ?_;refine aA rfl rfl rfl (aQ fa95_1 rfl) ?_;refine aA rfl rfl rfl (aM Tryz.isAgg3 rfl (rdA rfl)) ?_;refine aA rfl rfl rfl (fV rfl rfl _ (aT (by omega))) ?_;refine aA rfl rfl rfl (aF rfl) ?_;refine aJ ?_;refine aL (kh5 _ _ ?_);clear kh5;refine a7 ?_;exact bP [] Tryz.results56 rfl aI (by rw [ordP, if_neg c9])
theorem SortPr_spec (A : Option Addr) (cap : Nat) (l : List Pr) (m : Seg) (w : World) (hp : ∀ p ∈ l, POk p) (ho : Own 95 2 (.slice A l.length cap) l.length (l.flatMap dU) m) (hl : l.length < 4611686018427387904) (hw : Owns w [m]) :
    Meets Tryz.prog 55 [.slice A l.length cap, .func (.func 56) #[] #[]] w [m] (fun u own' => u = .tuple #[] ∧ ∃ (m' : Seg) (l2 : List Pr), own' = [m'] ∧ l2.Perm l ∧ l2.Pairwise (fun x y => x = y ∨ ltX x y) ∧ Own 95 2 (.slice A l2.length cap) l2.length (l2.flatMap dU) m') := by
  obtain ⟨l2, e2, hp2, hs2⟩ := sorted_fin l hp
  have hlm : (l.map ofP).map toP = l := by
    rw [List.map_map]
    conv => rhs; rw [← List.map_id l]
    exact List.map_congr_left fun p h => to_of (hp p h)
  have h := meets_sortF Tryz.laysPr (E := 95) 2 Tryz.isAgg95 Tryz.sizeOf95 (fun x : F20 => dU (toP x)) (fun x => dK _) (fun x v hv => by simp [dU] at hv; rcases hv with rfl | rfl <;> rfl) cfP swoF totF 56 Tryz.call56
    (fun x y W => order_spec (toP x) (toP y) W (toP_ok x) (toP_ok y)) A cap (l.map ofP) m w (by rw [flat_toP, hlm, List.length_map]; exact ho) (by rw [List.length_map]; exact hl) hw
  rw [List.length_map] at h;refine h.mono ?_;rintro u own' ⟨hu, m', e, ho2⟩;rw [flat_toP, ← e2] at ho2;exact ⟨hu, m', l2, e, hp2, hs2, by rw [hp2.length_eq]; exact ho2⟩
set_option maxRecDepth 100000 in
set_option maxHeartbeats 4000000 in
theorem CompactPr_spec (A : Option Addr) (cap : Nat) (l : List (Pr)) (m : Seg) (w : World) (ho : Own 95 2 (.slice A l.length cap) l.length (l.flatMap dU) m) (hl : l.length ≤ 1000000000) (hw : Owns w [m]) :
    Meets Tryz.prog 58 [.slice A l.length cap] w [m] (fun u own' => ∃ m', own' = [m'] ∧ Own 95 2 u (cpt l).length ((cpt l).flatMap dU) m') := by
 refine bJ Tryz.func58 rfl Tryz.ntmps58 rfl hw ?_;refine aK fun K1 kh1 => ?_;refine aB ?_;refine aA rfl rfl rfl (aF rfl) ?_;refine aJ ?_;refine aL (kh1 _ _ ?_);clear kh1;refine aK fun K2 kh2 => ?_;refine aK fun K3 kh3 => ?_;refine aB ?_;refine aA rfl rfl rfl (aG rfl) ?_;refine aA rfl rfl rfl (bS iB rfl) ?_;refine aA rfl rfl rfl (cD rfl rfl) ?_;refine aJ ?_;refine aL (kh3 _ _ ?_);clear kh3;refine aZ rfl (fun c8 => ?_) (fun c8 => ?_)
 ·
  have hcl : cpt l = l := by
    match l, c8 with
    | [], _ => rfl
    | [x], _ => rfl
    | x :: y :: r, h => simp at h; omega
  refine aK fun K4 kh4 => ?_;refine aB ?_;refine aA rfl rfl rfl (aG rfl) ?_;refine aA rfl rfl rfl (aF rfl) ?_;refine aJ ?_;refine aL (kh4 _ _ ?_);clear kh4;refine a7 ?_;refine bT ?_;exact bP [m] Tryz.results58 rfl (aD aI) ⟨m, rfl, by rw [hcl]; exact ho⟩
 ·
  obtain ⟨b, sp, rfl, rfl, hup⟩ := ho.upd (by omega)
  obtain ⟨_, _, e_, hcap⟩ := ho.val
  cases e_
  have hspl : sp.length = (cap - l.length) * 2 := by
    obtain ⟨_, h | ⟨b', c', sp', e, hm, _, _, h3⟩⟩ := ho
    · omega
    · cases e
      have := List.append_cancel_left (Array.toList_inj.2 (show (l.flatMap dU ++ sp).toArray = (l.flatMap dU ++ sp').toArray by simpa using hm))
      rw [this]; exact h3
  refine aW ?_;refine aL (kh2 _ _ ?_);clear kh2;refine aK fun K5 kh5 => ?_;refine aK fun K6 kh6 => ?_;refine aB ?_;refine aA rfl rfl rfl (aF rfl) ?_;refine aJ ?_;refine aL (kh6 _ _ ?_);clear kh6;refine aY ?_;refine jO (α := Nat) [0] (fun k => [(3, .int .i64 (k : Int))]) (fun k => 1 ≤ k ∧ k ≤ l.length ∧ cpt (l.take k) = l.take k) (fun k => l.length - k) (1) ?_ ?_ ?_
  · exact (by repeat constructor)
  · exact ⟨Nat.le_refl _, by omega, cpt_one (by omega)⟩
  ·
   rintro k ⟨hk1, hkl, hck⟩;refine aK fun K7 kh7 => ?_;refine aK fun K8 kh8 => ?_;refine aB ?_;refine aA rfl rfl rfl (aG rfl) ?_;refine aA rfl rfl rfl (aG rfl) ?_;refine aA rfl rfl rfl (bS iB rfl) ?_;refine aA rfl rfl rfl (cD rfl rfl) ?_;refine aJ ?_;refine aL (kh8 _ _ ?_);clear kh8;refine aZ rfl (fun c13 => ?_) (fun c13 => ?_)
   ·
    have hk : k < l.length := by omega
    refine aW ?_;refine aL (kh7 _ _ ?_);clear kh7;refine aK fun K9 kh9 => ?_;refine aY ?_;refine aK fun K10 kh10 => ?_;refine fY rfl (by decide +kernel) ?_;refine aN rfl rfl rfl (aG rfl) ?_;refine aN rfl rfl rfl (aG rfl) ?_;refine aN rfl rfl rfl (bA iB rfl rfl (k * 2) ⟨by omega, by omega, by first | omega | (simp; done) | (simp; omega)⟩) ?_;refine aN rfl rfl rfl (a8 (vs := dU l[k]) Tryz.isAgg95 Tryz.sizeOf95 rfl rfl (rdsOwn dK hk)) ?_;refine aN rfl rfl rfl (aG rfl) ?_;refine aN rfl rfl rfl (aG rfl) ?_;refine aN rfl rfl rfl (fV rfl rfl _ (aT (by omega))) ?_;refine aN rfl rfl rfl (bA iB rfl rfl ((k - 1) * 2) ⟨by omega, by omega, by first | omega | (simp; done) | (simp; omega)⟩) ?_;refine aN rfl rfl rfl (a8 (vs := dU l[k - 1]) Tryz.isAgg95 Tryz.sizeOf95 rfl rfl (rdsOwn dK (by omega))) ?_;refine aN rfl rfl rfl (o_eqlA Tryz.eqGuardType95 (eqPr l[k] (l[k - 1])) rfl rfl) ?_;refine eH ?_;refine aL (kh10 _ _ ?_);clear kh10;refine aZ rfl (fun c25 => ?_) (fun c25 => ?_)
    ·
     refine aK fun K11 kh11 => ?_;refine aB ?_;refine aA rfl rfl rfl (aG rfl) ?_;refine aA rfl rfl rfl (aG rfl) ?_;refine aA rfl rfl rfl (e5 iB rfl rfl rfl rfl (fun h => by cases h) k _ _ (.inr ⟨_, _, rfl, by omega⟩) (.inl ⟨rfl, rfl⟩) (.inl ⟨rfl, rfl⟩) ⟨by omega, by omega, by omega⟩ (.slice (some ⟨b, k * 2, none⟩) (l.length - k) (cap - k)) (by rw [if_neg (by omega)]; simp [cY])) ?_;refine aA rfl rfl rfl (aF rfl) ?_;refine aJ ?_;refine aL (kh11 _ _ ?_);clear kh11;refine aK fun K12 kh12 => ?_;refine aK fun K13 kh13 => ?_;refine aB ?_;refine aA rfl rfl rfl (aF rfl) ?_;refine aJ ?_;refine aL (kh13 _ _ ?_);clear kh13;refine aY ?_;refine cS (α := Nat × Nat × List (Pr)) [0, 4] (fun ⟨q, i, d⟩ => [(5, .int .i64 (q : Int)), (3, .int .i64 (i : Int))]) (fun ⟨q, i, d⟩ => [[(b, blk (d.flatMap dU ++ sp) 95)]]) (fun ⟨q, i, d⟩ => 1 ≤ q ∧ k + q ≤ l.length ∧ i < k + q ∧ d.length = l.length ∧ d.take i = cpt (l.take (k + q)) ∧ d.drop (k + q - 1) = l.drop (k + q - 1)) (fun ⟨q, i, d⟩ => l.length - (k + q)) (1, k, l) ?_ ?_ ?_ ?_
     · exact (by repeat constructor)
     · repeat first|exact aI|refine aD ?_|refine aC rfl ?_|refine aH ?_
     · exact ⟨Nat.le_refl _, by omega, by omega, rfl, by rw [jG (by omega) hk, if_pos c25.symm, hck], rfl⟩
     ·
      rintro ⟨q, i, d⟩ ⟨hq1, hql, hik, hdl, hdt, hdd⟩;refine eX (e := [(5, _), (3, _), (0, _), (4, _)]) (by repeat constructor) ?_;refine aK fun K14 kh14 => ?_;refine aK fun K15 kh15 => ?_;refine aB ?_;refine aA rfl rfl rfl (aG rfl) ?_;refine aA rfl rfl rfl (aG rfl) ?_;refine aA rfl rfl rfl (bS iB rfl) ?_;refine aA rfl rfl rfl (cD rfl rfl) ?_;refine aJ ?_;refine aL (kh15 _ _ ?_);clear kh15;refine aZ rfl (fun c32 => ?_) (fun c32 => ?_)
      ·
       have hj' : k + q < l.length := by omega
       have hd1 := dropk_get hdl hdd (j := k + q) (by omega) hj'
       have hd2 := dropk_get hdl hdd (j := k + q - 1) (Nat.le_refl _) (by omega)
       refine aW ?_;refine aL (kh14 _ _ ?_);clear kh14;refine aK fun K16 kh16 => ?_;refine aY ?_;refine aK fun K17 kh17 => ?_;refine fY rfl (by decide +kernel) ?_;refine aN rfl rfl rfl (aG rfl) ?_;refine aN rfl rfl rfl (aG rfl) ?_;refine aN rfl rfl rfl (bA iB rfl rfl ((k + q) * 2) ⟨by omega, by omega, by first | omega | (simp; done) | (simp; omega)⟩) ?_;refine aN rfl rfl rfl (a8 (vs := dU l[k + q]) Tryz.isAgg95 Tryz.sizeOf95 rfl rfl (by rw [← hd1]; exact rdsOwn dK (by omega))) ?_;refine aN rfl rfl rfl (aG rfl) ?_;refine aN rfl rfl rfl (aG rfl) ?_;refine aN rfl rfl rfl (fV rfl rfl _ (aT (by omega))) ?_;refine aN rfl rfl rfl (bA iB rfl rfl ((k + q - 1) * 2) ⟨by omega, by omega, by first | omega | (simp; done) | (simp; omega)⟩) ?_;refine aN rfl rfl rfl (a8 (vs := dU l[k + q - 1]) Tryz.isAgg95 Tryz.sizeOf95 rfl rfl (by rw [← hd2]; exact rdsOwn dK (by omega))) ?_;refine aN rfl rfl rfl (o_neqA Tryz.eqGuardType95 (eqPr l[k + q] (l[k + q - 1])) rfl rfl) ?_;refine eH ?_;refine aL (kh17 _ _ ?_);clear kh17;refine aZ rfl (fun c44 => ?_) (fun c44 => ?_)
       ·
        refine aK fun K18 kh18 => ?_;refine aB ?_;refine aA rfl rfl rfl (aG rfl) ?_;refine aA rfl rfl rfl (aG rfl) ?_;refine aA rfl rfl rfl (aG rfl) ?_;refine aA rfl rfl rfl (aG rfl) ?_;refine aA rfl rfl rfl (bA iB rfl rfl ((k + q) * 2) ⟨by omega, by omega, by first | omega | (simp; done) | (simp; omega)⟩) ?_;refine aA rfl rfl rfl (a8 (vs := dU l[k + q]) Tryz.isAgg95 Tryz.sizeOf95 rfl rfl (by rw [← hd1]; exact rdsOwn dK (by omega))) ?_;refine aA rfl rfl rfl (bA iB rfl rfl (i * 2) ⟨by omega, by omega, by first | omega | (simp; done) | (simp; omega)⟩) ?_;refine bF rfl rfl (cA Tryz.sizeOf95 rfl rfl rfl rfl (by show i * 2 + 2 ≤ _; rw [List.length_append, dR dU dK]; omega) ((d.set i l[k + q]).flatMap dU ++ sp) (setMany_flat dK sp _ _ _ (by omega)) ?_);refine aJ ?_;refine aL (kh18 _ _ ?_);clear kh18;refine aB ?_;refine aA rfl rfl rfl (aG rfl) ?_;refine aA rfl rfl rfl (bG rfl rfl _ (aT (by omega))) ?_;refine aA rfl rfl rfl (aF rfl) ?_;refine aJ ?_;refine cV ?_;refine aL (kh16 _ _ ?_);clear kh16;refine aB ?_;refine aA rfl rfl rfl (aG rfl) ?_;refine aA rfl rfl rfl (bG rfl rfl _ (aT (by omega))) ?_;refine aA rfl rfl rfl (aF rfl) ?_;refine aJ ?_;refine aL (bB (q + 1, i + 1, d.set i l[k + q]) (by first | omega | (dsimp only; omega) | (simp; omega)) ⟨by omega, by omega, by omega, by simpa using hdl, (cptk_put hj' hik hdl hdt hdd c44).1, (cptk_put hj' hik hdl hdt hdd c44).2⟩ ?_ ?_ ?_)
        · exact (by repeat constructor)
        · exact (by repeat constructor)
        · repeat first|exact aI|refine aD ?_|refine aC rfl ?_|refine aH ?_
       ·
        refine aW ?_;refine cV ?_;refine aL (kh16 _ _ ?_);clear kh16;refine aB ?_;refine aA rfl rfl rfl (aG rfl) ?_;refine aA rfl rfl rfl (bG rfl rfl _ (aT (by omega))) ?_;refine aA rfl rfl rfl (aF rfl) ?_;refine aJ ?_;refine aL (bB (q + 1, i, d) (by first | omega | (dsimp only; omega) | (simp; omega)) ⟨by omega, by omega, by omega, hdl, (cptk_pass hj' (by omega) hdt hdd (by simpa using c44)).1, (cptk_pass hj' (by omega) hdt hdd (by simpa using c44)).2⟩ ?_ ?_ ?_)
        · exact (by repeat constructor)
        · exact (by repeat constructor)
        · repeat first|exact aI|refine aD ?_|refine aC rfl ?_|refine aH ?_
      ·
       refine cG ?_;refine cK ?_;clear kh14;refine cK ?_;refine d5 ?_;refine aL (kh12 _ _ ?_);clear kh12;refine aK fun K19 kh19 => ?_;obtain rfl : q = l.length - k := by omega
       rw [show k + (l.length - k) = l.length by omega, List.take_length] at hdt;have hiL : (cpt l).length = i := by rw [← hdt]; simp; omega
       refine aB ?_;refine aA rfl rfl rfl (aG rfl) ?_;refine aA rfl rfl rfl (aG rfl) ?_;refine aA rfl rfl rfl (e5 iB rfl rfl rfl rfl (fun h => by cases h) i _ _ (.inr ⟨_, _, rfl, by omega⟩) (.inl ⟨rfl, rfl⟩) (.inl ⟨rfl, rfl⟩) ⟨by omega, by omega, by omega⟩ (.slice (some ⟨b, i * 2, none⟩) (l.length - i) (cap - i)) (by rw [if_neg (by omega)]; simp [cY])) ?_;refine bF rfl rfl (o_clear el68 rfl rfl (by rw [List.length_append, dR dU dK]; omega) ((d.take i).flatMap dU ++ ((List.replicate (l.length - i) [.int .i64 0, .int .i64 0]).flatten ++ sp)) (cptk_zero dK (by omega) sp _ (by rw [hdl]; simp)) ?_);refine aJ ?_;refine aL (kh19 _ _ ?_);clear kh19;refine aK fun K20 kh20 => ?_;refine aB ?_;refine aA rfl rfl rfl (aG rfl) ?_;refine aA rfl rfl rfl (aG rfl) ?_;refine aA rfl rfl rfl (e5 iB rfl rfl rfl rfl (fun h => by cases h) 0 i cap (.inl ⟨rfl, rfl⟩) (.inr ⟨_, _, rfl, by omega⟩) (.inl ⟨rfl, rfl⟩) ⟨by omega, by omega, by omega⟩ (.slice (some ⟨b, 0, none⟩) i cap) (by rw [if_neg (by omega)]; simp [cY])) ?_;refine aA rfl rfl rfl (aF rfl) ?_;refine aJ ?_;refine aL (kh20 _ _ ?_);clear kh20;refine a7 ?_;refine eC ?_;refine bT ?_;refine bT ?_;refine eC ?_;refine bT ?_;exact bP [[(b, blk ((d.take i).flatMap dU ++ ((List.replicate (l.length - i) [.int .i64 0, .int .i64 0]).flatten ++ sp)) 95)]] Tryz.results58 rfl (by repeat (first | exact aI | refine aD ?_)) ⟨_, rfl, by rw [hiL, ← hdt]; exact ⟨by rw [dR dU dK, List.length_take, Nat.min_eq_left (by omega)], .inr ⟨b, cap, _, rfl, rfl, by omega, by omega, by rw [List.length_append, hspl]; simp; omega⟩⟩⟩
    ·
     refine aW ?_;refine cV ?_;refine aL (kh9 _ _ ?_);clear kh9;refine aB ?_;refine aA rfl rfl rfl (aG rfl) ?_;refine aA rfl rfl rfl (bG rfl rfl _ (aT (by omega))) ?_;refine aA rfl rfl rfl (aF rfl) ?_;refine aJ ?_;refine aL (bB (k + 1) (by first | omega | (dsimp only; omega) | (simp; omega)) ⟨by omega, by omega, by rw [jG (by omega) hk, if_neg (fun e => c25 e.symm), hck, ← List.take_succ_eq_append_getElem hk]⟩ ?_ ?_ ?_)
     · exact (by repeat constructor)
     · exact (by repeat constructor)
     · repeat first|exact aI|refine aD ?_|refine aC rfl ?_|refine aH ?_
   ·
    refine cG ?_;refine cK ?_;clear kh7;refine cK ?_;refine d5 ?_;refine aL (kh5 _ _ ?_);clear kh5;refine aK fun K21 kh21 => ?_;refine aB ?_;refine aA rfl rfl rfl (aG rfl) ?_;refine aA rfl rfl rfl (aF rfl) ?_;refine aJ ?_;refine aL (kh21 _ _ ?_);clear kh21;refine a7 ?_;have hcl : cpt l = l := by rw [List.take_of_length_le (by omega)] at hck; exact hck
    exact bP [[(b, blk (l.flatMap dU ++ sp) 95)]] Tryz.results58 rfl (by repeat (first | exact aI | refine aD ?_)) ⟨_, rfl, by rw [hcl]; exact ho⟩
set_option maxRecDepth 100000 in
set_option maxHeartbeats 4000000 in
theorem ClipPr_spec (A : Option Addr) (len cap : Nat) (w : World) (h : len ≤ cap) (hm : cap ≤ 9223372036854775807) (hA : A = none → len = 0) :
    Meets Tryz.prog 57 [.slice A len cap] w [] (fun u m => u = .slice A len len ∧ m = []) := by
 refine bJ Tryz.func57 rfl Tryz.ntmps57 rfl Owns.nil ?_;refine aK fun K1 kh1 => ?_;refine aB ?_;refine aA rfl rfl rfl (aF rfl) ?_;refine aJ ?_;refine aL (kh1 _ _ ?_);clear kh1;refine aK fun K2 kh2 => ?_;refine aB ?_;refine aA rfl rfl rfl (aG rfl) ?_;refine aA rfl rfl rfl (aG rfl) ?_;refine aA rfl rfl rfl (bS iB rfl) ?_;refine aA rfl rfl rfl (aG rfl) ?_;refine aA rfl rfl rfl (bS iB rfl) ?_;refine aA rfl rfl rfl (e5 iB rfl rfl rfl rfl (fun _ => rfl) 0 len len (.inl ⟨rfl, rfl⟩) (.inr ⟨_, _, rfl, by omega⟩) (.inr ⟨_, _, rfl, by omega⟩) ⟨by omega, by omega, by omega⟩ (.slice A len len) (by rw [Nat.sub_zero]; congr 1; split; rfl; cases A with | none => rfl | some x => obtain ⟨p, q, r⟩ := x; cases r <;> simp [Addr.add])) ?_;refine aA rfl rfl rfl (aF rfl) ?_;refine aJ ?_;refine aL (kh2 _ _ ?_);clear kh2;refine a7 ?_;exact bP [] Tryz.results57 rfl aI ⟨rfl, rfl⟩
set_option maxRecDepth 100000 in
set_option maxHeartbeats 4000000 in
theorem pairs_spec (n : Nat) (A : Option Addr) (l : List Arc) (cap : Nat) (w : World) (hr : Ro (Fr w []) w A (l.flatMap cE)) (hg : (bH (n : Int) l).2 = 0) :
    Meets Tryz.prog 66 [.agg #[.int .i64 (n : Int), .slice A l.length cap]] w [] (fun u own' => ∃ A' m', u = .slice A' (prs n l).length (prs n l).length ∧ own' = [m'] ∧ ∃ c, Own 95 2 (.slice A' (prs n l).length c) (prs n l).length ((prs n l).flatMap dU) m') := by
 obtain ⟨hn1, hn2, hlen, hgd⟩ := bX hg
 refine bJ Tryz.func66 rfl Tryz.ntmps66 rfl Owns.nil ?_;refine aK fun K1 kh1 => ?_;refine aB ?_;refine aR rfl rfl rfl (cZ rfl rfl fun b1 => ?_);refine aA rfl rfl rfl (aF rfl) ?_;refine aJ ?_;refine aL (kh1 _ _ ?_);clear kh1;refine aK fun K2 kh2 => ?_;refine aB ?_;refine aA rfl rfl rfl (aF rfl) ?_;refine aJ ?_;refine aL (kh2 _ _ ?_);clear kh2;refine aK fun K3 kh3 => ?_;refine aK fun K4 kh4 => ?_;refine aB ?_;refine aA rfl rfl rfl (aQ hG rfl) ?_;refine aA rfl rfl rfl (aM Tryz.isAgg22 rfl (rdA rfl)) ?_;refine aA rfl rfl rfl (bS lJ rfl) ?_;refine aA rfl rfl rfl (aG rfl) ?_;refine aJ ?_;refine aL (kh4 _ _ ?_);clear kh4;refine aY ?_;refine cS (α := Nat × Value × Seg) [7, 8] (fun ⟨i, vo, mo⟩ => [(9, .int .i64 (i : Int)), (3, vo)]) (fun ⟨i, vo, mo⟩ => [mo, [(b1, blk [.int .i64 (n : Int), .slice A l.length cap] 24)]]) (fun ⟨i, vo, mo⟩ => i ≤ l.length ∧ Own 95 2 vo (iG (l.take i)).length ((iG (l.take i)).flatMap dU) mo) (fun ⟨i, vo, mo⟩ => l.length - i) (0, .slice none 0 0, []) ?_ ?_ ?_ ?_
 · exact (by repeat constructor)
 · repeat first|exact aI|refine aD ?_|refine aC rfl ?_|refine aH ?_
 · exact ⟨by omega, Own.nil _ _⟩
 ·
  rintro ⟨i, vo, mo⟩ ⟨hil, ho1⟩;have hrl := raw_len (l.take i)
  rw [List.length_take] at hrl;refine aK fun K5 kh5 => ?_;refine aB ?_;refine aA rfl rfl rfl (cD rfl rfl) ?_;refine aJ ?_;refine aL (kh5 _ _ ?_);clear kh5;refine aK fun K6 kh6 => ?_;refine aZ rfl (fun c10 => ?_) (fun c10 => ?_)
  ·
   have hi : i < l.length := by omega
   obtain ⟨bq, off, rfl, hS, hc⟩ := hr (f9 cE dO (by omega) hi)
   refine aW ?_;refine aL (kh6 _ _ ?_);clear kh6;refine aK fun K7 kh7 => ?_;refine aY ?_;refine aK fun K8 kh8 => ?_;refine aB ?_;refine aA rfl rfl rfl (bA lJ rfl rfl (off + i * 3) ⟨by omega, by omega, by first | omega | (simp; done) | (simp; omega)⟩) ?_;refine aA rfl rfl rfl (a8 (vs := cE l[i]) Tryz.isAgg48 Tryz.sizeOf48 rfl rfl (gN dO hS hc hi)) ?_;refine aR rfl rfl rfl (cU Tryz.zeroValue48 rfl fun b5 => ?_);refine bF rfl rfl (cA Tryz.sizeOf48 rfl rfl rfl rfl (by first | exact Nat.le_of_ble_eq_true rfl | (simp; done) | (simp; omega)) (cE l[i]) rfl ?_);refine aJ ?_;refine aL (kh8 _ _ ?_);clear kh8;refine aK fun K9 kh9 => ?_;refine aB ?_;refine aA rfl rfl rfl (aQ gA rfl) ?_;refine aA rfl rfl rfl (aM Tryz.isAgg3 rfl (rdA rfl)) ?_;refine aA rfl rfl rfl (aQ fX rfl) ?_;refine aA rfl rfl rfl (aM Tryz.isAgg3 rfl (rdA rfl)) ?_;refine aA rfl rfl rfl (c6 rfl rfl) ?_;refine aJ ?_;refine aL (kh9 _ _ ?_);clear kh9;refine aZ rfl (fun c17 => ?_) (fun c17 => ?_)
   ·
    have hq : iG (l.take (i + 1)) = iG (l.take i) ++ [jZ l[i]] := by rw [raw_next hi, if_pos c17]
    refine aB ?_;refine aA rfl rfl rfl (aG rfl) ?_;refine aA rfl rfl rfl (aQ gA rfl) ?_;refine aA rfl rfl rfl (aM Tryz.isAgg3 rfl (rdA rfl)) ?_;refine aA rfl rfl rfl (aQ fX rfl) ?_;refine aA rfl rfl rfl (aM Tryz.isAgg3 rfl (rdA rfl)) ?_;refine aA rfl rfl rfl (o_min rfl rfl) ?_;refine aA rfl rfl rfl (aQ gA rfl) ?_;refine aA rfl rfl rfl (aM Tryz.isAgg3 rfl (rdA rfl)) ?_;refine aA rfl rfl rfl (aQ fX rfl) ?_;refine aA rfl rfl rfl (aM Tryz.isAgg3 rfl (rdA rfl)) ?_;refine aA rfl rfl rfl (o_max rfl rfl) ?_;refine aA rfl rfl rfl (dB (cs := dU (jZ l[i])) st95 rfl rfl) ?_;refine aR rfl rfl rfl (dA el68 (by omega) rfl rfl rfl fun b30 => ?_);refine aR rfl rfl rfl (dG el68 rfl rfl ho1 (ys := dU (jZ l[i])) ⟨(rdA rfl), (rdA rfl), trivial⟩ rfl rfl (by omega) (by omega) fun v31 m31 o31 => ?_);refine aA rfl rfl rfl (aF rfl) ?_;refine aJ ?_;refine cV ?_;refine aL (kh7 _ _ ?_);clear kh7;refine aB ?_;refine aA rfl rfl rfl (bG rfl rfl _ (aT (by omega))) ?_;refine aA rfl rfl rfl (aG rfl) ?_;refine aJ ?_;refine aL (bB (i + 1, v31, m31) (by first | omega | (dsimp only; omega) | (simp; omega)) ⟨by omega, by rw [hq, List.length_append, List.flatMap_append]; simpa using o31⟩ ?_ ?_ ?_)
    · exact (by repeat constructor)
    · exact (by repeat constructor)
    · repeat first|exact aI|refine aD ?_|refine aC rfl ?_|refine aH ?_
   ·
    have hq : iG (l.take (i + 1)) = iG (l.take i) := by rw [raw_next hi, if_neg c17, List.append_nil]
    refine aW ?_;refine cV ?_;refine aL (kh7 _ _ ?_);clear kh7;refine aB ?_;refine aA rfl rfl rfl (bG rfl rfl _ (aT (by omega))) ?_;refine aA rfl rfl rfl (aG rfl) ?_;refine aJ ?_;refine aL (bB (i + 1, vo, mo) (by first | omega | (dsimp only; omega) | (simp; omega)) ⟨by omega, by rw [hq]; exact ho1⟩ ?_ ?_ ?_)
    · exact (by repeat constructor)
    · exact (by repeat constructor)
    · repeat first|exact aI|refine aD ?_|refine aC rfl ?_|refine aH ?_
  ·
   refine cG ?_;refine cK ?_;clear kh6;refine cK ?_;refine d5 ?_;refine aL (kh3 _ _ ?_);clear kh3;refine aK fun K10 kh10 => ?_;obtain rfl : i = l.length := by omega
   rw [List.take_length] at ho1;have hrl2 := raw_len l
   obtain ⟨Ao, co, rfl, hco⟩ := ho1.val
   have hok : ∀ p ∈ iG l, POk p := raw_ok (by omega) hgd
   refine aB ?_;refine aA rfl rfl rfl (aG rfl) ?_;refine aR rfl rfl rfl (fH [mo] _ Tryz.call55 rfl (by repeat (first | exact Sub.refl | refine aD ?_)) (fun w_ hp_ => SortPr_spec Ao co (iG l) mo w_ hok ho1 (by omega) hp_.owns) ?_);rintro _ _ ⟨rfl, m2, l2, rfl, hp2, hs2, ho2⟩;have hl2 := hp2.length_eq
   have hcp := prs_is (n := n) (raw_good hgd) hp2 hs2
   rw [← hl2];dsimp only [List.cons_append, List.nil_append];refine aJ ?_;refine aL (kh10 _ _ ?_);clear kh10;refine aK fun K11 kh11 => ?_;refine aB ?_;refine aA rfl rfl rfl (aG rfl) ?_;refine aR rfl rfl rfl (fH [m2] _ Tryz.call58 rfl (by repeat (first | exact Sub.refl | refine aD ?_)) (fun w_ hp_ => CompactPr_spec Ao co l2 m2 w_ ho2 (by omega) hp_.owns) ?_);rintro v36 _ ⟨m3, rfl, ho3⟩;rw [hcp] at ho3;obtain ⟨A3, c3, rfl, hc3⟩ := ho3.val
   dsimp only [List.cons_append, List.nil_append];refine aR rfl rfl rfl (bD Tryz.call57 rfl (fun w_ hp_ => ClipPr_spec A3 (prs n l).length c3 w_ hc3.1 hc3.2 (j0 ho3)) ?_);rintro _ _ ⟨rfl, rfl⟩;dsimp only [List.cons_append, List.nil_append];refine aA rfl rfl rfl (aF rfl) ?_;refine aJ ?_;refine aL (kh11 _ _ ?_);clear kh11;refine a7 ?_;exact bP [m3] Tryz.results66 rfl (by repeat (first | exact aI | refine aD ?_ | refine aC rfl ?_)) ⟨A3, m3, rfl, rfl, c3, ho3⟩
end Go.Proofs.YtjjogcnjcnpehaaGreat

/- flyoverbook: whether lists and graphs are the same. -/
namespace Go.Proofs.YtjjogcnjcnpehaaGreat
open Go Go.RowKit Fly
set_option linter.unusedVariables false
set_option linter.unusedSimpArgs false
theorem prefix_next {α : Type} {l r : List α} {k : Nat} (hl : l.length = r.length) (hk : k < l.length) (h : ∀ j (a : j < l.length) (b : j < r.length), j < k → l[j] = r[j]) (e : l[k] = r[k]'(hl ▸ hk)) :
    ∀ j (a : j < l.length) (b : j < r.length), j < k + 1 → l[j] = r[j] := fun j a b hj => by
  by_cases hjk : j = k
  · subst hjk; exact e
  · exact h j a b (by omega)
theorem prefix_all {α : Type} {l r : List α} {k : Nat} (hl : l.length = r.length) (hk : l.length ≤ k) (h : ∀ j (a : j < l.length) (b : j < r.length), j < k → l[j] = r[j]) : l = r :=
  List.ext_getElem hl fun j a b => h j a b (by omega)
theorem ne_at {α : Type} {l r : List α} {k : Nat} (hk : k < l.length) (hk' : k < r.length) (e : l[k] ≠ r[k]) : l ≠ r := fun h => by subst h; exact e rfl
set_option maxRecDepth 100000 in
set_option maxHeartbeats 4000000 in
theorem SameInts_spec (A B : Option Addr) (l r : List Int) (ca cb : Nat) (w : World) (hl : Ro (Fr w []) w A (a6 l)) (hr : Ro (Fr w []) w B (a6 r)) (hm : l.length ≤ 9223372036854775807) :
    Meets Tryz.prog 10 [.slice A l.length ca, .slice B r.length cb] w [] (fun u m => u = .bool (decide (l = r)) ∧ m = []) := by
 refine bJ Tryz.func10 rfl Tryz.ntmps10 rfl Owns.nil ?_;refine aK fun K1 kh1 => ?_;refine aB ?_;refine aA rfl rfl rfl (aF rfl) ?_;refine aJ ?_;refine aL (kh1 _ _ ?_);clear kh1;refine aK fun K2 kh2 => ?_;refine aK fun K3 kh3 => ?_;refine aB ?_;refine aA rfl rfl rfl (aG rfl) ?_;refine aA rfl rfl rfl (bS bK rfl) ?_;refine aA rfl rfl rfl (aG rfl) ?_;refine aA rfl rfl rfl (bS bK rfl) ?_;refine aA rfl rfl rfl (c6 rfl rfl) ?_;refine aJ ?_;refine aL (kh3 _ _ ?_);clear kh3;refine aZ rfl (fun c10 => ?_) (fun c10 => ?_)
 ·
  refine aK fun K4 kh4 => ?_;refine aB ?_;refine aA rfl rfl rfl (aF rfl) ?_;refine aJ ?_;refine aL (kh4 _ _ ?_);clear kh4;refine a7 ?_;refine bT ?_;exact bP [] Tryz.results10 rfl aI ⟨by rw [decide_eq_false]; intro e; subst e; omega, rfl⟩
 ·
  have hlr : l.length = r.length := by omega
  refine aW ?_;refine aL (kh2 _ _ ?_);clear kh2;refine aK fun K5 kh5 => ?_;refine aK fun K6 kh6 => ?_;refine aB ?_;refine aA rfl rfl rfl (aF rfl) ?_;refine aJ ?_;refine aL (kh6 _ _ ?_);clear kh6;refine aY ?_;refine jO (α := Nat) [0, 1] (fun k => [(5, .int .i64 (k : Int))]) (fun k => k ≤ l.length ∧ ∀ j (a : j < l.length) (b : j < r.length), j < k → l[j] = r[j]) (fun k => l.length - k) (0) ?_ ?_ ?_
  · exact (by repeat constructor)
  · exact ⟨by omega, fun j _ _ hj => by omega⟩
  ·
   rintro k ⟨hkl, hpre⟩;refine aK fun K7 kh7 => ?_;refine aK fun K8 kh8 => ?_;refine aB ?_;refine aA rfl rfl rfl (aG rfl) ?_;refine aA rfl rfl rfl (aG rfl) ?_;refine aA rfl rfl rfl (bS bK rfl) ?_;refine aA rfl rfl rfl (cD rfl rfl) ?_;refine aJ ?_;refine aL (kh8 _ _ ?_);clear kh8;refine aZ rfl (fun c14 => ?_) (fun c14 => ?_)
   ·
    refine aW ?_;refine aL (kh7 _ _ ?_);clear kh7;refine aK fun K9 kh9 => ?_;refine aY ?_;refine aK fun K10 kh10 => ?_;refine fY rfl (by decide +kernel) ?_;have hk : k < l.length := by omega
    have hk' : k < r.length := by omega
    obtain ⟨b1, o1, rfl, hS1, hc1⟩ := hl (fun e => by have := aX l; rw [e] at this; simp at this; omega)
    obtain ⟨b2, o2, rfl, hS2, hc2⟩ := hr (fun e => by have := aX r; rw [e] at this; simp at this; omega)
    refine aN rfl rfl rfl (aG rfl) ?_;refine aN rfl rfl rfl (aG rfl) ?_;refine aN rfl rfl rfl (bA bK rfl rfl (o1 + k) ⟨by omega, by omega, by first | omega | (simp; done) | (simp; omega)⟩) ?_;refine aN rfl rfl rfl (aM Tryz.isAgg3 rfl (dX (enc := (.int .i64 ·)) hS1 hc1 hk)) ?_;refine aN rfl rfl rfl (aG rfl) ?_;refine aN rfl rfl rfl (aG rfl) ?_;refine aN rfl rfl rfl (bA bK rfl rfl (o2 + k) ⟨by omega, by omega, by first | omega | (simp; done) | (simp; omega)⟩) ?_;refine aN rfl rfl rfl (aM Tryz.isAgg3 rfl (dX (enc := (.int .i64 ·)) hS2 hc2 hk')) ?_;refine aN rfl rfl rfl (c6 rfl rfl) ?_;refine eH ?_;refine aL (kh10 _ _ ?_);clear kh10;refine aZ rfl (fun c25 => ?_) (fun c25 => ?_)
    ·
     refine aK fun K11 kh11 => ?_;refine aB ?_;refine aA rfl rfl rfl (aF rfl) ?_;refine aJ ?_;refine aL (kh11 _ _ ?_);clear kh11;refine a7 ?_;refine eC ?_;refine bT ?_;refine bT ?_;refine eC ?_;refine bT ?_;exact bP [] Tryz.results10 rfl aI ⟨by rw [decide_eq_false]; exact ne_at hk hk' c25, rfl⟩
    ·
     refine aW ?_;refine cV ?_;refine aL (kh9 _ _ ?_);clear kh9;refine aB ?_;refine aA rfl rfl rfl (aG rfl) ?_;refine aA rfl rfl rfl (bG rfl rfl _ (aT (by omega))) ?_;refine aA rfl rfl rfl (aF rfl) ?_;refine aJ ?_;refine aL (bB (k + 1) (by first | omega | (dsimp only; omega) | (simp; omega)) ⟨by omega, prefix_next hlr hk hpre (by omega)⟩ ?_ ?_ ?_)
     · exact (by repeat constructor)
     · exact (by repeat constructor)
     · repeat first|exact aI|refine aD ?_|refine aC rfl ?_|refine aH ?_
   ·
    refine cG ?_;refine cK ?_;clear kh7;refine cK ?_;refine d5 ?_;refine aL (kh5 _ _ ?_);clear kh5;refine aK fun K12 kh12 => ?_;refine aB ?_;refine aA rfl rfl rfl (aF rfl) ?_;refine aJ ?_;refine aL (kh12 _ _ ?_);clear kh12;refine a7 ?_;exact bP [] Tryz.results10 rfl aI ⟨by rw [decide_eq_true]; exact prefix_all hlr (by omega) hpre, rfl⟩
end Go.Proofs.YtjjogcnjcnpehaaGreat

/- The graph of some vertices: plain laws. -/
namespace Go.Proofs.YtjjogcnjcnpehaaGreat
open Go Fly
set_option linter.unusedVariables false
set_option linter.unusedSimpArgs false
/-- The kept vertices. -/
def fB (keep : List Bool) : List Int := j6 id keep
/-- How many kept ones are before a vertex. -/
def fK (keep : List Bool) (v : Nat) : Nat := (fB (keep.take v)).length
def subArc (keep : List Bool) (x : Arc) : Arc := ⟨fK keep x.src.toNat, fK keep x.dst.toNat, x.wt⟩
def kin (keep : List Bool) (x : Arc) : Bool := keep.getD x.src.toNat false && keep.getD x.dst.toNat false
def d8 (keep : List Bool) (l : List Arc) : List Arc := (l.filter (kin keep)).map (subArc keep)
theorem verts_all {keep : List Bool} {k : Nat} (h : keep.length ≤ k) : fB (keep.take k) = fB keep := by rw [List.take_of_length_le h]
theorem verts_yes {keep : List Bool} {k : Nat} (h : k < keep.length) (hk : keep[k] = true) : fB (keep.take (k + 1)) = fB (keep.take k) ++ [(k : Int)] := idxs_yes (p := id) h hk
theorem verts_no {keep : List Bool} {k : Nat} (h : k < keep.length) (hk : keep[k] = false) : fB (keep.take (k + 1)) = fB (keep.take k) := lV (p := id) h hk
theorem verts_le (keep : List Bool) : (fB keep).length ≤ keep.length := by unfold fB; rw [idxs_length]; exact List.countP_le_length
theorem verts_take_le (keep : List Bool) (k : Nat) : (fB (keep.take k)).length ≤ k := Nat.le_trans (verts_le _) (List.length_take_le _ _)
/-- The map tells each kept vertex its number. -/
def mA (ents : List (Int × Value × Nat)) (keep : List Bool) (k : Nat) : Prop := ∀ j (h : j < keep.length), j < k → keep[j] = true → dI ents (j : Int) = some (.int .i64 (fK keep j : Int))
theorem numbers_start (keep : List Bool) : mA [] keep 0 := fun j h hj => by omega
theorem numbers_yes {ents : List (Int × Value × Nat)} {keep : List Bool} {k c : Nat} (h : k < keep.length) (hn : mA ents keep k) (hk : keep[k] = true) : mA (eW ents (k : Int) (.int .i64 ((fB (keep.take k)).length : Int)) c) keep (k + 1) := fun j hj hjk hkj => by
  rw [gS]
  by_cases e : j = k
  · subst e; rw [if_pos rfl]; rfl
  · rw [if_neg (by omega)]; exact hn j hj (by omega) hkj
theorem numbers_no {ents : List (Int × Value × Nat)} {keep : List Bool} {k : Nat} (h : k < keep.length) (hn : mA ents keep k) (hk : keep[k] = false) : mA ents keep (k + 1) := fun j hj hjk hkj => by
  by_cases e : j = k
  · subst e; rw [hk] at hkj; cases hkj
  · exact hn j hj (by omega) hkj
theorem look_num {ents : List (Int × Value × Nat)} {keep : List Bool} (hn : ∀ (j : Nat) (h : j < keep.length), keep[j] = true → dI ents (j : Int) = some (.int .i64 (fK keep j : Int))) {x : Int} (h0 : 0 ≤ x) (h : x.toNat < keep.length) (hk : keep[x.toNat] = true) {z : Value} :
    (dI ents x).getD z = .int .i64 (fK keep x.toNat : Int) := by
  have := hn x.toNat h hk
  rw [show ((x.toNat : Nat) : Int) = x from by omega] at this;rw [this]; rfl
theorem kin_get {keep : List Bool} {x : Arc} (h1 : x.src.toNat < keep.length) (h2 : x.dst.toNat < keep.length) : kin keep x = (keep[x.src.toNat] && keep[x.dst.toNat]) := by
  simp [kin, List.getD_eq_getElem?_getD, h1, h2]
theorem sub_yes {keep : List Bool} {l : List Arc} {k : Nat} (hk : k < l.length) (h : kin keep l[k] = true) : d8 keep (l.take (k + 1)) = d8 keep (l.take k) ++ [subArc keep l[k]] := by
  unfold d8; rw [List.take_succ_eq_append_getElem hk, List.filter_append, List.map_append]; simp [h]
theorem sub_no {keep : List Bool} {l : List Arc} {k : Nat} (hk : k < l.length) (h : kin keep l[k] = false) : d8 keep (l.take (k + 1)) = d8 keep (l.take k) := by
  unfold d8; rw [List.take_succ_eq_append_getElem hk, List.filter_append, List.map_append]; simp [h]
theorem sub_len (keep : List Bool) (l : List Arc) : (d8 keep l).length ≤ l.length := by unfold d8; rw [List.length_map]; exact List.length_filter_le _ _
theorem idxs_len_le {α : Type} (p : α → Bool) (l : List α) : (j6 p l).length ≤ l.length := by rw [idxs_length]; exact List.countP_le_length
theorem sub_take_le (keep : List Bool) (l : List Arc) (k : Nat) : (d8 keep (l.take k)).length ≤ k := Nat.le_trans (sub_len _ _) (List.length_take_le _ _)
theorem idxs_take_le {α : Type} (p : α → Bool) (l : List α) (k : Nat) : (j6 p (l.take k)).length ≤ k := Nat.le_trans (idxs_len_le _ _) (List.length_take_le _ _)
end Go.Proofs.YtjjogcnjcnpehaaGreat

/- graph.Induced: the graph of some vertices. -/
namespace Go.Proofs.YtjjogcnjcnpehaaGreat
open Go Go.RowKit Fly
set_option linter.unusedVariables false
set_option linter.unusedSimpArgs false
def jT (N : Int) (l : List Arc) (keep : List Bool) (u : Value) (own : List Seg) : Prop :=
  if (bH N l).2 ≠ 0 then u = .tuple #[.agg #[.int .i64 0, .slice none 0 0], .slice none 0 0, .slice none 0 0, .int .i64 (bH N l).2] ∧ own = []
  else if (keep.length : Int) ≠ N then u = .tuple #[.agg #[.int .i64 0, .slice none 0 0], .slice none 0 0, .slice none 0 0, .int .i64 4] ∧ own = []
  else if (fB keep).length = 0 then u = .tuple #[.agg #[.int .i64 0, .slice none 0 0], .slice none 0 0, .slice none 0 0, .int .i64 5] ∧ own = []
  else ∃ sa sv sl ma mv ml, u = .tuple #[.agg #[.int .i64 (fB keep).length, sa], sv, sl, .int .i64 0] ∧ own = [ma, mv, ml] ∧
    Own 48 3 sa (d8 keep l).length ((d8 keep l).flatMap cE) ma ∧ Own 3 1 sv (fB keep).length (a6 (fB keep)) mv ∧ Own 3 1 sl (j6 (kin keep) l).length (a6 (j6 (kin keep) l)) ml
set_option maxRecDepth 100000 in
set_option maxHeartbeats 4000000 in
theorem Induced_spec (N : Int) (A : Option Addr) (l : List Arc) (cap : Nat) (B : Option Addr) (keep : List Bool) (cb : Nat) (w : World) (hr : Ro (Fr w []) w A (l.flatMap cE)) (hk : Ro (Fr w []) w B (keep.map .bool)) (hl : l.length ≤ 9223372036854775807) (hN : I64 N) (hok : ∀ x ∈ l, dQ x) :
    Meets Tryz.prog 60 [.agg #[.int .i64 N, .slice A l.length cap], .slice B keep.length cb] w [] (jT N l keep) := by
 refine bJ Tryz.func60 rfl Tryz.ntmps60 rfl Owns.nil ?_;refine aK fun K1 kh1 => ?_;refine aB ?_;refine aR rfl rfl rfl (cZ rfl rfl fun b2 => ?_);refine aR rfl rfl rfl (cU Tryz.zeroValue24 rfl fun b4 => ?_);refine aA rfl rfl rfl (aF rfl) ?_;refine aA rfl rfl rfl (aF rfl) ?_;refine aA rfl rfl rfl (aF rfl) ?_;refine aJ ?_;refine aL (kh1 _ _ ?_);clear kh1;refine aK fun K2 kh2 => ?_;refine aK fun K3 kh3 => ?_;refine aB ?_;refine aA rfl rfl rfl (a8 (vs := [_, _]) Tryz.isAgg24 Tryz.sizeOf24 rfl rfl ⟨(rdA rfl), (rdA rfl), trivial⟩) ?_;refine aR rfl rfl rfl (bD Tryz.call21 rfl (fun w_ hp_ => fG N A l cap w_ (hr.up0 hp_) hl hN hok) ?_);rintro _ _ ⟨rfl, rfl⟩;dsimp only [List.cons_append, List.nil_append];refine aA rfl rfl rfl (aG rfl) ?_;refine aA rfl rfl rfl (aV rfl rfl) ?_;refine aA rfl rfl rfl (aV rfl rfl) ?_;refine aA rfl rfl rfl (aF rfl) ?_;refine aA rfl rfl rfl (aF rfl) ?_;refine aJ ?_;refine aL (kh3 _ _ ?_);clear kh3;refine aK fun K4 kh4 => ?_;refine aB ?_;refine aA rfl rfl rfl (aG rfl) ?_;refine aA rfl rfl rfl (c6 rfl rfl) ?_;refine aJ ?_;refine aL (kh4 _ _ ?_);clear kh4;refine aZ rfl (fun c21 => ?_) (fun c21 => ?_)
 ·
  refine aK fun K5 kh5 => ?_;refine aB ?_;refine aA rfl rfl rfl (dB st24 rfl rfl) ?_;refine aA rfl rfl rfl (aG rfl) ?_;refine bF rfl rfl (cA Tryz.sizeOf24 rfl rfl rfl rfl (by first | exact Nat.le_of_ble_eq_true rfl | (simp; done) | (simp; omega)) _ rfl ?_);refine aA rfl rfl rfl (aF rfl) ?_;refine aA rfl rfl rfl (aF rfl) ?_;refine aA rfl rfl rfl (aF rfl) ?_;refine aJ ?_;refine aL (kh5 _ _ ?_);clear kh5;refine a7 ?_;refine bT ?_;exact f_finR4 [] Tryz.results60 (rvA (vs := [.int .i64 0, .slice none 0 0]) Tryz.isAgg24 Tryz.sizeOf24 rfl rfl ⟨(rdA rfl), (rdA rfl), trivial⟩) (rv rfl) (rv rfl) (rv rfl) aI (by unfold jT; rw [if_pos (by simpa using c21)]; exact ⟨rfl, rfl⟩)
 ·
  have hc0 : (bH N l).2 = 0 := by simpa using c21
  obtain ⟨hN1, hN2, hlen, hgood⟩ := bX hc0
  refine aW ?_;refine aL (kh2 _ _ ?_);clear kh2;refine aK fun K6 kh6 => ?_;refine aK fun K7 kh7 => ?_;refine aB ?_;refine aA rfl rfl rfl (aG rfl) ?_;refine aA rfl rfl rfl (bS kW rfl) ?_;refine aA rfl rfl rfl (aQ eE rfl) ?_;refine aA rfl rfl rfl (aM Tryz.isAgg3 rfl (rdA rfl)) ?_;refine aA rfl rfl rfl (c6 rfl rfl) ?_;refine aJ ?_;refine aL (kh7 _ _ ?_);clear kh7;refine aZ rfl (fun c28 => ?_) (fun c28 => ?_)
  ·
   refine aK fun K8 kh8 => ?_;refine aB ?_;refine aA rfl rfl rfl (dB st24 rfl rfl) ?_;refine bF rfl rfl (cA Tryz.sizeOf24 rfl rfl rfl rfl (by first | exact Nat.le_of_ble_eq_true rfl | (simp; done) | (simp; omega)) _ rfl ?_);refine aA rfl rfl rfl (aF rfl) ?_;refine aA rfl rfl rfl (aF rfl) ?_;refine aA rfl rfl rfl (aF rfl) ?_;refine aJ ?_;refine aL (kh8 _ _ ?_);clear kh8;refine a7 ?_;refine bT ?_;exact f_finR4 [] Tryz.results60 (rvA (vs := [.int .i64 0, .slice none 0 0]) Tryz.isAgg24 Tryz.sizeOf24 rfl rfl ⟨(rdA rfl), (rdA rfl), trivial⟩) (rv rfl) (rv rfl) (rv rfl) aI (by unfold jT; rw [if_neg (by simpa using c21), if_pos (by omega)]; exact ⟨rfl, rfl⟩)
  ·
   have hkN : (keep.length : Int) = N := by omega
   refine aW ?_;refine aL (kh6 _ _ ?_);clear kh6;refine aK fun K9 kh9 => ?_;refine aB ?_;refine aR rfl rfl rfl (iH fun b30 => ?_);refine aA rfl rfl rfl (aF rfl) ?_;refine aJ ?_;refine aL (kh9 _ _ ?_);clear kh9;refine aK fun K10 kh10 => ?_;refine aK fun K11 kh11 => ?_;refine aB ?_;refine aA rfl rfl rfl (aG rfl) ?_;refine aA rfl rfl rfl (bS kW rfl) ?_;refine aA rfl rfl rfl (aG rfl) ?_;refine aJ ?_;refine aL (kh11 _ _ ?_);clear kh11;refine aY ?_;refine cS (α := Nat × List (Int × Value × Nat) × Nat × Value × Seg) [1, 2, 4, 6, 10, 31, 32] (fun ⟨k, ents, clk, v5, m5⟩ => [(33, .int .i64 (k : Int)), (5, v5)]) (fun ⟨k, ents, clk, v5, m5⟩ => [[(b30, f3 (fun x : Int => .int .i64 x) ents clk)], m5, [(b2, blk [.int .i64 N, .slice A l.length cap] 24)], [(b4, blk [.int .i64 0, .slice none 0 0] 24)]]) (fun ⟨k, ents, clk, v5, m5⟩ => k ≤ keep.length ∧ Own 3 1 v5 (fB (keep.take k)).length (a6 (fB (keep.take k))) m5 ∧ mA ents keep k) (fun ⟨k, ents, clk, v5, m5⟩ => keep.length - k) (0, [], 0, .slice none 0 0, []) ?_ ?_ ?_ ?_
   · exact (by repeat constructor)
   · repeat first|exact aI|refine aD ?_|refine aC rfl ?_|refine aH ?_
   · exact ⟨by omega, Own.nil _ _, numbers_start keep⟩
   ·
    rintro ⟨k, ents, clk, v5, m5⟩ ⟨hk0, ho5, hnum⟩;obtain ⟨A5, cap5, rfl, hc5⟩ := ho5.val
    have hvl := verts_take_le keep k
    refine aK fun K12 kh12 => ?_;refine aB ?_;refine aA rfl rfl rfl (cD rfl rfl) ?_;refine aJ ?_;refine aL (kh12 _ _ ?_);clear kh12;refine aK fun K13 kh13 => ?_;refine aZ rfl (fun c34 => ?_) (fun c34 => ?_)
    ·
     refine aW ?_;refine aL (kh13 _ _ ?_);clear kh13;refine aK fun K14 kh14 => ?_;refine aY ?_;refine aK fun K15 kh15 => ?_;refine aB ?_;refine aA rfl rfl rfl (aG rfl) ?_;have hkk : k < keep.length := by omega
     obtain ⟨bk, ok, rfl, hSk, hck⟩ := hk (map_ne hkk)
     refine aA rfl rfl rfl (bA kW rfl rfl (ok + k) ⟨by omega, by omega, by first | omega | (simp; done) | (simp; omega)⟩) ?_;refine aA rfl rfl rfl (aM Tryz.isAgg4 rfl (dX (enc := Value.bool) hSk hck hkk)) ?_;refine aA rfl rfl rfl (aF rfl) ?_;refine aA rfl rfl rfl (aF rfl) ?_;refine aJ ?_;refine aL (kh15 _ _ ?_);clear kh15;refine aK fun K16 kh16 => ?_;refine aB ?_;refine aA rfl rfl rfl (aG rfl) ?_;refine aJ ?_;refine aL (kh16 _ _ ?_);clear kh16;refine fC rfl (fun c38 => ?_) (fun c38 => ?_)
     ·
      refine aK fun K17 kh17 => ?_;refine aB ?_;refine aA rfl rfl rfl (aG rfl) ?_;refine aA rfl rfl rfl (aG rfl) ?_;refine aA rfl rfl rfl (aG rfl) ?_;refine aA rfl rfl rfl (bS bK rfl) ?_;refine bF rfl rfl (gO kt86 rfl rfl rfl rfl ?_);refine aJ ?_;refine aL (kh17 _ _ ?_);clear kh17;refine aB ?_;refine aA rfl rfl rfl (aG rfl) ?_;refine aA rfl rfl rfl (aG rfl) ?_;refine aR rfl rfl rfl (dA dV (by omega) rfl rfl rfl fun b45 => ?_);refine aR rfl rfl rfl (dG dV rfl rfl ho5 (ys := [.int .i64 (k : Int)]) ⟨(rdA rfl), trivial⟩ rfl rfl (by omega) (by omega) fun v46 m46 o46 => ?_);refine aA rfl rfl rfl (aF rfl) ?_;refine aJ ?_;refine cV ?_;refine aL (kh14 _ _ ?_);clear kh14;refine aB ?_;refine aA rfl rfl rfl (bG rfl rfl _ (aT (by omega))) ?_;refine aA rfl rfl rfl (aG rfl) ?_;refine aJ ?_;refine aL (bB (k + 1, eW ents (k : Int) (.int .i64 ((fB (keep.take k)).length : Int)) clk, fF ents (k : Int) clk, v46, m46) (by first | omega | (dsimp only; omega) | (simp; omega)) ⟨by omega, by rw [verts_yes hkk (by simpa using c38), dZ, List.length_append]; exact o46, numbers_yes hkk hnum (by simpa using c38)⟩ ?_ ?_ ?_)
      · exact (by repeat constructor)
      · exact (by repeat constructor)
      · repeat first|exact aI|refine aD ?_|refine aC rfl ?_|refine aH ?_
     ·
      refine aW ?_;refine cV ?_;refine aL (kh14 _ _ ?_);clear kh14;refine aB ?_;refine aA rfl rfl rfl (bG rfl rfl _ (aT (by omega))) ?_;refine aA rfl rfl rfl (aG rfl) ?_;refine aJ ?_;refine aL (bB (k + 1, ents, clk, _, m5) (by first | omega | (dsimp only; omega) | (simp; omega)) ⟨by omega, by rw [verts_no hkk (by simpa using c38)]; exact ho5, numbers_no hkk hnum (by simpa using c38)⟩ ?_ ?_ ?_)
      · exact (by repeat constructor)
      · exact (by repeat constructor)
      · repeat first|exact aI|refine aD ?_|refine aC rfl ?_|refine aH ?_
    ·
     refine cG ?_;refine cK ?_;clear kh13;refine cK ?_;refine d5 ?_;refine aL (kh10 _ _ ?_);clear kh10;refine aK fun K18 kh18 => ?_;refine aK fun K19 kh19 => ?_;refine aB ?_;refine aA rfl rfl rfl (aG rfl) ?_;refine aA rfl rfl rfl (bS bK rfl) ?_;refine aA rfl rfl rfl (fM rfl rfl) ?_;refine aJ ?_;refine aL (kh19 _ _ ?_);clear kh19;refine aZ rfl (fun c50 => ?_) (fun c50 => ?_)
     ·
      refine aK fun K20 kh20 => ?_;refine aB ?_;refine aA rfl rfl rfl (dB st24 rfl rfl) ?_;refine bF rfl rfl (cA Tryz.sizeOf24 rfl rfl rfl rfl (by first | exact Nat.le_of_ble_eq_true rfl | (simp; done) | (simp; omega)) _ rfl ?_);refine aA rfl rfl rfl (aF rfl) ?_;refine aA rfl rfl rfl (aF rfl) ?_;refine aA rfl rfl rfl (aF rfl) ?_;refine aJ ?_;refine aL (kh20 _ _ ?_);clear kh20;refine a7 ?_;refine bT ?_;exact f_finR4 [] Tryz.results60 (rvA (vs := [.int .i64 0, .slice none 0 0]) Tryz.isAgg24 Tryz.sizeOf24 rfl rfl ⟨(rdA rfl), (rdA rfl), trivial⟩) (rv rfl) (rv rfl) (rv rfl) aI (by unfold jT; rw [if_neg (by simpa using c21), if_neg (by omega), if_pos (by rw [verts_all (by omega)] at c50; omega)]; exact ⟨rfl, rfl⟩)
     ·
      have hne : ¬ (fB keep).length = 0 := by rw [verts_all (by omega)] at c50; omega
      refine aW ?_;refine aL (kh18 _ _ ?_);clear kh18;refine aK fun K21 kh21 => ?_;refine aB ?_;refine aA rfl rfl rfl (aG rfl) ?_;refine aA rfl rfl rfl (bS bK rfl) ?_;refine aA rfl rfl rfl (aQ eE rfl) ?_;refine bF rfl rfl (cB Tryz.sizeOf3 rfl rfl rfl rfl (by first | exact Nat.le_of_ble_eq_true rfl | (simp; done) | (simp; omega)) _ rfl ?_);refine aJ ?_;refine aL (kh21 _ _ ?_);clear kh21;refine aK fun K22 kh22 => ?_;refine aK fun K23 kh23 => ?_;have hnum2 : ∀ j (h : j < keep.length), keep[j] = true → dI ents (j : Int) = some (.int .i64 (fK keep j : Int)) := fun j h hj => hnum j h (by omega) hj
      refine aB ?_;refine aA rfl rfl rfl (aQ hG rfl) ?_;refine aA rfl rfl rfl (aM Tryz.isAgg22 rfl (rdA rfl)) ?_;refine aA rfl rfl rfl (bS lJ rfl) ?_;refine aA rfl rfl rfl (aG rfl) ?_;refine aJ ?_;refine aL (kh23 _ _ ?_);clear kh23;refine aY ?_;refine cS (α := Nat × Value × Seg × Value × Seg) [1, 4, 5, 10, 56, 57] (fun ⟨i, sa, ma, v6, m6⟩ => [(58, .int .i64 (i : Int)), (6, v6)]) (fun ⟨i, sa, ma, v6, m6⟩ => [[(b4, blk [.int .i64 (fB (keep.take k)).length, sa] 24)], ma, m6, m5, [(b30, f3 (fun x : Int => .int .i64 x) ents clk)], [(b2, blk [.int .i64 N, .slice A l.length cap] 24)]]) (fun ⟨i, sa, ma, v6, m6⟩ => i ≤ l.length ∧ Own 48 3 sa (d8 keep (l.take i)).length ((d8 keep (l.take i)).flatMap cE) ma ∧ Own 3 1 v6 (j6 (kin keep) (l.take i)).length (a6 (j6 (kin keep) (l.take i))) m6) (fun ⟨i, sa, ma, v6, m6⟩ => l.length - i) (0, .slice none 0 0, [], .slice none 0 0, []) ?_ ?_ ?_ ?_
      · exact (by repeat constructor)
      · repeat first|exact aI|refine aD ?_|refine aC rfl ?_|refine aH ?_
      · exact ⟨by omega, Own.nil _ _, Own.nil _ _⟩
      ·
       rintro ⟨i, sa, ma, v6, m6⟩ ⟨hi0, hoa, ho6⟩;have hl1 := sub_take_le keep l i
       have hl2 := idxs_take_le (kin keep) l i
       obtain ⟨Aa, capa, rfl, hca⟩ := hoa.val
       obtain ⟨A6, cap6, rfl, hc6⟩ := ho6.val
       refine eX (e := [(58, _), (6, _), (1, _), (4, _), (5, _), (10, _), (56, _), (57, _)]) (by repeat constructor) ?_;refine aK fun K24 kh24 => ?_;refine aB ?_;refine aA rfl rfl rfl (cD rfl rfl) ?_;refine aJ ?_;refine aL (kh24 _ _ ?_);clear kh24;refine aK fun K25 kh25 => ?_;refine aZ rfl (fun c59 => ?_) (fun c59 => ?_)
       ·
        refine aW ?_;refine aL (kh25 _ _ ?_);clear kh25;refine aK fun K26 kh26 => ?_;refine aY ?_;refine aK fun K27 kh27 => ?_;refine aB ?_;refine aA rfl rfl rfl (aG rfl) ?_;have hii : i < l.length := by omega
        obtain ⟨bl, off, rfl, hS, hc⟩ := hr (f9 cE dO (by omega) hii)
        obtain ⟨hs0, hs1, hd0, hd1⟩ := hgood i hii
        have hsr : l[i].src.toNat < keep.length := by omega
        have hds : l[i].dst.toNat < keep.length := by omega
        obtain ⟨bk, ok, rfl, hSk, hck⟩ := hk (map_ne hsr)
        refine aA rfl rfl rfl (bA lJ rfl rfl (off + i * 3) ⟨by omega, by omega, by first | omega | (simp; done) | (simp; omega)⟩) ?_;refine aA rfl rfl rfl (a8 (vs := cE l[i]) Tryz.isAgg48 Tryz.sizeOf48 rfl rfl (gN dO hS hc hii)) ?_;refine aR rfl rfl rfl (cU Tryz.zeroValue48 rfl fun b14 => ?_);refine aA rfl rfl rfl (aF rfl) ?_;refine bF rfl rfl (cA Tryz.sizeOf48 rfl rfl rfl rfl (by first | exact Nat.le_of_ble_eq_true rfl | (simp; done) | (simp; omega)) _ rfl ?_);refine aJ ?_;refine aL (kh27 _ _ ?_);clear kh27;refine aK fun K28 kh28 => ?_;refine aB ?_;refine aA rfl rfl rfl (aG rfl) ?_;refine aA rfl rfl rfl (aQ gA rfl) ?_;refine aA rfl rfl rfl (aM Tryz.isAgg3 rfl (rdA rfl)) ?_;refine aA rfl rfl rfl (bA kW rfl rfl (ok + l[i].src.toNat) ⟨by omega, by omega, by first | omega | (simp; done) | (simp; omega)⟩) ?_;refine aA rfl rfl rfl (aM Tryz.isAgg4 rfl (dX (enc := Value.bool) hSk hck hsr)) ?_;refine aA rfl rfl rfl (aG rfl) ?_;refine f_splitLB 68 rfl (fun g68 => ?_) (fun g68 => ?_)
        ·
         refine aO rfl rfl rfl rfl rfl (aG rfl) ?_;refine aO rfl rfl rfl rfl rfl (aQ fX rfl) ?_;refine aO rfl rfl rfl rfl rfl (aM Tryz.isAgg3 rfl (rdA rfl)) ?_;refine aO rfl rfl rfl rfl rfl (bA kW rfl rfl (ok + l[i].dst.toNat) ⟨by omega, by omega, by first | omega | (simp; done) | (simp; omega)⟩) ?_;refine aO rfl rfl rfl rfl rfl (aM Tryz.isAgg4 rfl (dX (enc := Value.bool) hSk hck hds)) ?_;refine aA rfl rfl rfl (cF rfl rfl) ?_;refine aJ ?_;refine aL (kh28 _ _ ?_);clear kh28;refine fC rfl (fun c74 => ?_) (fun c74 => ?_)
         ·
          have hkin : kin keep l[i] = true := by rw [kin_get hsr hds, g68, c74]; rfl
          refine aK fun K29 kh29 => ?_;refine aB ?_;refine aA rfl rfl rfl (aQ hG rfl) ?_;refine aA rfl rfl rfl (aM Tryz.isAgg22 rfl (rdA rfl)) ?_;refine aA rfl rfl rfl (aG rfl) ?_;refine aA rfl rfl rfl (aQ gA rfl) ?_;refine aA rfl rfl rfl (aM Tryz.isAgg3 rfl (rdA rfl)) ?_;refine aA rfl rfl rfl (fW kt86 Tryz.zeroValue3 rfl rfl rfl (.int .i64 (fK keep l[i].src.toNat : Int)) (by rw [look_num hnum2 hs0 hsr g68])) ?_;refine aA rfl rfl rfl (aG rfl) ?_;refine aA rfl rfl rfl (aQ fX rfl) ?_;refine aA rfl rfl rfl (aM Tryz.isAgg3 rfl (rdA rfl)) ?_;refine aA rfl rfl rfl (fW kt86 Tryz.zeroValue3 rfl rfl rfl (.int .i64 (fK keep l[i].dst.toNat : Int)) (by rw [look_num hnum2 hd0 hds (by simpa using c74)])) ?_;refine aA rfl rfl rfl (aQ fa48_2 rfl) ?_;refine aA rfl rfl rfl (aM Tryz.isAgg46 rfl (rdA rfl)) ?_;refine aA rfl rfl rfl (dB (cs := cE (subArc keep l[i])) st48 rfl rfl) ?_;refine aR rfl rfl rfl (dA el22 (by omega) rfl rfl rfl fun b88 => ?_);refine aR rfl rfl rfl (dG el22 rfl rfl hoa (ys := cE (subArc keep l[i])) ⟨(rdA rfl), (rdA rfl), (rdA rfl), trivial⟩ rfl rfl (by omega) (by omega) fun v89 m89 o89 => ?_);obtain ⟨A89, cap89, rfl, _⟩ := o89.val
          refine aA rfl rfl rfl (aQ hG rfl) ?_;refine bF rfl rfl (cB Tryz.sizeOf22 rfl rfl rfl rfl (by first | exact Nat.le_of_ble_eq_true rfl | (simp; done) | (simp; omega)) _ rfl ?_);refine aJ ?_;refine aL (kh29 _ _ ?_);clear kh29;refine aB ?_;refine aA rfl rfl rfl (aG rfl) ?_;refine aA rfl rfl rfl (aG rfl) ?_;refine aR rfl rfl rfl (dA dV (by omega) rfl rfl rfl fun b93 => ?_);refine aR rfl rfl rfl (dG dV rfl rfl ho6 (ys := [.int .i64 (i : Int)]) ⟨(rdA rfl), trivial⟩ rfl rfl (by omega) (by omega) fun v94 m94 o94 => ?_);refine aA rfl rfl rfl (aF rfl) ?_;refine aJ ?_;refine cV ?_;refine aL (kh26 _ _ ?_);clear kh26;refine aB ?_;refine aA rfl rfl rfl (bG rfl rfl _ (aT (by omega))) ?_;refine aA rfl rfl rfl (aG rfl) ?_;refine aJ ?_;refine aL (bB (i + 1, _, m89, v94, m94) (by first | omega | (dsimp only; omega) | (simp; omega)) ⟨by omega, by rw [sub_yes hii hkin, List.flatMap_append, List.length_append]; simpa using o89, by rw [idxs_yes hii hkin, dZ, List.length_append]; exact o94⟩ ?_ ?_ ?_)
          · exact (by repeat constructor)
          · exact (by repeat constructor)
          · repeat first|exact aI|refine aD ?_|refine aC rfl ?_|refine aH ?_
         ·
          have hkin : kin keep l[i] = false := by rw [kin_get hsr hds, g68, c74]; rfl
          refine aW ?_;refine cV ?_;refine aL (kh26 _ _ ?_);clear kh26;refine aB ?_;refine aA rfl rfl rfl (bG rfl rfl _ (aT (by omega))) ?_;refine aA rfl rfl rfl (aG rfl) ?_;refine aJ ?_;refine aL (bB (i + 1, _, ma, _, m6) (by first | omega | (dsimp only; omega) | (simp; omega)) ⟨by omega, by rw [sub_no hii hkin]; exact hoa, by rw [lV hii hkin]; exact ho6⟩ ?_ ?_ ?_)
          · exact (by repeat constructor)
          · exact (by repeat constructor)
          · repeat first|exact aI|refine aD ?_|refine aC rfl ?_|refine aH ?_
        ·
         have hkin : kin keep l[i] = false := by rw [kin_get hsr hds, g68]; rfl
         refine aS rfl rfl rfl rfl rfl rfl ?_;refine aS rfl rfl rfl rfl rfl rfl ?_;refine aS rfl rfl rfl rfl rfl rfl ?_;refine aS rfl rfl rfl rfl rfl rfl ?_;refine aS rfl rfl rfl rfl rfl rfl ?_;refine aA rfl rfl rfl (cO rfl rfl) ?_;refine aJ ?_;refine aL (kh28 _ _ ?_);clear kh28;refine gZ rfl ?_;refine aW ?_;refine cV ?_;refine aL (kh26 _ _ ?_);clear kh26;refine aB ?_;refine aA rfl rfl rfl (bG rfl rfl _ (aT (by omega))) ?_;refine aA rfl rfl rfl (aG rfl) ?_;refine aJ ?_;refine aL (bB (i + 1, _, ma, _, m6) (by first | omega | (dsimp only; omega) | (simp; omega)) ⟨by omega, by rw [sub_no hii hkin]; exact hoa, by rw [lV hii hkin]; exact ho6⟩ ?_ ?_ ?_)
         · exact (by repeat constructor)
         · exact (by repeat constructor)
         · repeat first|exact aI|refine aD ?_|refine aC rfl ?_|refine aH ?_
       ·
        refine cG ?_;refine cK ?_;clear kh25;refine cK ?_;refine d5 ?_;refine aL (kh22 _ _ ?_);clear kh22;refine aK fun K30 kh30 => ?_;refine aB ?_;refine aA rfl rfl rfl (a8 (vs := [_, _]) Tryz.isAgg24 Tryz.sizeOf24 rfl rfl ⟨(rdA rfl), (rdA rfl), trivial⟩) ?_;refine aA rfl rfl rfl (aG rfl) ?_;refine aA rfl rfl rfl (aG rfl) ?_;refine bF rfl rfl (cA Tryz.sizeOf24 rfl rfl rfl rfl (by first | exact Nat.le_of_ble_eq_true rfl | (simp; done) | (simp; omega)) _ rfl ?_);refine aA rfl rfl rfl (aF rfl) ?_;refine aA rfl rfl rfl (aF rfl) ?_;refine aA rfl rfl rfl (aF rfl) ?_;refine aJ ?_;refine aL (kh30 _ _ ?_);clear kh30;refine a7 ?_;have et : l.take i = l := List.take_of_length_le (by omega)
        rw [et] at hoa ho6;have ev := verts_all (keep := keep) (k := k) (by omega)
        rw [ev] at ho5;exact f_finR4 [ma, m5, m6] Tryz.results60 (rvA (vs := [.int .i64 (fB (keep.take k)).length, .slice Aa (d8 keep (l.take i)).length capa]) Tryz.isAgg24 Tryz.sizeOf24 rfl rfl ⟨(rdA rfl), (rdA rfl), trivial⟩) (rv rfl) (rv rfl) (rv rfl) (by repeat (first | exact aI | refine aD ?_)) (by unfold jT; rw [if_neg (by simpa using c21), if_neg (by omega), if_neg hne]; exact ⟨_, _, _, _, _, _, by rw [ev, et], rfl, hoa, ho5, ho6⟩)
end Go.Proofs.YtjjogcnjcnpehaaGreat

/- Facts on regions: which vertices are in them. -/
namespace Go.Proofs.YtjjogcnjcnpehaaGreat
open Go Fly
set_option linter.unusedVariables false
set_option linter.unusedSimpArgs false
set_option linter.unusedSectionVars false
structure RegOk (n : Nat) (l : List Arc) (c mn : Nat) (L : List Int) : Prop where
  is : L = (bfs n (fun v : Nat => bY (v : Int) l) c (List.replicate n false)).1.take mn
  c : c < n
  m : 1 ≤ mn ∧ mn ≤ 1024
  rng : ∀ x ∈ L, 0 ≤ x ∧ x < (n : Int)
  nd : L.Nodup
theorem reg_ok {N : Int} {l : List Arc} {c most : Int} (h : (dE N l c most).2 = 0) : (bH N l).2 = 0 ∧ ∃ n cn mn : Nat, N = (n : Int) ∧ c = (cn : Int) ∧ most = (mn : Int) ∧ RegOk n l cn mn (dE N l c most).1 := by
  unfold dE at h ⊢
  by_cases h1 : (bH N l).2 ≠ 0
  · rw [if_pos h1] at h; exact absurd h h1
  · by_cases h2 : c < 0 ∨ N ≤ c
    · rw [if_neg h1, if_pos h2] at h; cases h
    · by_cases h3 : most < 1 ∨ 1024 < most
      · rw [if_neg h1, if_neg h2, if_pos h3] at h; cases h
      · rw [if_neg h1, if_neg h2, if_neg h3]
        have hg : (bH N l).2 = 0 := by omega
        have hz := bX hg
        obtain ⟨n, rfl⟩ : ∃ n : Nat, N = (n : Int) := ⟨N.toNat, by omega⟩
        have hI := BInv.go (iZ hg).2 (BInv.start (n := n) (c := c.toNat) (b := List.replicate n false) (by simp) (by omega)) n
        refine ⟨hg, n, c.toNat, most.toNat, rfl, by omega, by omega, rfl, by omega, by omega, fun x hx => hI.rng x (List.mem_of_mem_take hx), ?_⟩;exact hI.nd.sublist (List.take_sublist _ _)
end Go.Proofs.YtjjogcnjcnpehaaGreat

/- Labels: which are right, how many there are of each, pairs between them. -/
namespace Go.Proofs.YtjjogcnjcnpehaaGreat
open Go Fly
set_option linter.unusedVariables false
set_option linter.unusedSimpArgs false
set_option linter.unusedSectionVars false
/-- The labels behind n that have come. -/
def rgo : Int → List Int → Bool
  | _, [] => true
  | n, l :: r => if l < 0 ∨ n < l then false else rgo (if l = n then n + 1 else n) r
def c7 (N : Int) (L : List Int) : Bool := rgo 0 L && decide ((L.length : Int) = N)
theorem rgo_drop {L : List Int} {k : Nat} (hk : k < L.length) (n : Int) : rgo n (L.drop k) = if L[k] < 0 ∨ n < L[k] then false else rgo (if L[k] = n then n + 1 else n) (L.drop (k + 1)) := by
  rw [← List.getElem_cons_drop hk]; rfl
theorem rgo_end {L : List Int} {k : Nat} (hk : L.length ≤ k) (n : Int) : rgo n (L.drop k) = true := by
  rw [List.drop_eq_nil_of_le hk]; rfl
theorem rgo_pos : ∀ {L : List Int} {n : Int}, rgo n L = true → ∀ x ∈ L, 0 ≤ x
  | [], _, _, x, hx => by cases hx
  | l :: r, n, h, x, hx => by
    unfold rgo at h
    split at h
    · cases h
    · rcases List.mem_cons.1 hx with rfl | hx
      · omega
      · exact rgo_pos h x hx
theorem rgo_lt : ∀ {L : List Int} {n : Int}, rgo n L = true → ∀ x ∈ L, x < n + L.length
  | [], _, _, x, hx => by cases hx
  | l :: r, n, h, x, hx => by
    unfold rgo at h
    split at h
    · cases h
    · rcases List.mem_cons.1 hx with rfl | hx
      · simp only [List.length_cons]; omega
      · have := rgo_lt h x hx
        simp only [List.length_cons]
        split at this <;> omega
/-- Whether a pair is between two labels. -/
def gE (L : List Int) (p : Pr) : Bool := decide (L.getD p.1.toNat 0 ≠ L.getD p.2.toNat 0)
/-- How many pairs are between labels. -/
def l3 (n : Nat) (l : List Arc) (L : List Int) : Nat := ((prs n l).filter (gE L)).length
def eD (N : Int) (l : List Arc) (L : List Int) : Int × Int :=
  if (bH N l).2 ≠ 0 then (0, (bH N l).2) else if c7 N L = false then (0, 80) else ((l3 N.toNat l L : Int), 0)
theorem f7 {n : Nat} {l : List Arc} {p : Pr} (h : p ∈ prs n l) : (0 ≤ p.1 ∧ p.1 < n) ∧ 0 ≤ p.2 ∧ p.2 < n := mem_allP.1 (List.mem_filter.1 h).1
theorem prs_len {n : Nat} (hn : n ≤ 1024) (l : List Arc) : (prs n l).length ≤ 1048576 := by
  unfold prs
  refine Nat.le_trans (List.length_filter_le _ _) ?_;rw [allP_len];exact Nat.le_trans (Nat.mul_le_mul hn hn) (by decide)
theorem kL {α : Type} {q : α → Bool} {l : List α} {i : Nat} (hi : i < l.length) : ((l.take (i + 1)).filter q).length = ((l.take i).filter q).length + (if q l[i] then 1 else 0) := by
  rw [List.take_succ_eq_append_getElem hi, List.filter_append, List.length_append]
  congr 1
  by_cases h : q l[i] <;> simp [h]
/-- The greatest of some numbers. -/
def d4 (L : List Int) : Int := L.foldl max (L.headD 0)
theorem max_next {L : List Int} {k : Nat} (hk : k < L.length) : (L.take (k + 1)).foldl max (L.headD 0) = max ((L.take k).foldl max (L.headD 0)) L[k] := by
  rw [List.take_succ_eq_append_getElem hk, List.foldl_append]; rfl
theorem max_one {L : List Int} (h : 0 < L.length) : (L.take 1).foldl max (L.headD 0) = L[0] := by
  cases L with
  | nil => simp at h
  | cons x r => simp
theorem foldl_max_ge : ∀ (L : List Int) (a : Int), a ≤ L.foldl max a ∧ ∀ x ∈ L, x ≤ L.foldl max a
  | [], a => ⟨Int.le_refl _, fun x hx => by cases hx⟩
  | y :: L, a => by
    obtain ⟨h1, h2⟩ := foldl_max_ge L (max a y)
    simp only [List.foldl_cons];refine ⟨by omega, fun x hx => ?_⟩
    rcases List.mem_cons.1 hx with rfl | hx
    · omega
    · exact h2 x hx
theorem foldl_max_le : ∀ (L : List Int) (a b : Int), a ≤ b → (∀ x ∈ L, x ≤ b) → L.foldl max a ≤ b
  | [], a, b, h, _ => h
  | y :: L, a, b, h, hx => foldl_max_le L (max a y) b (by have := hx y (by simp); omega) fun x hm => hx x (by simp [hm])
theorem f8 {L : List Int} {x : Int} (h : x ∈ L) : x ≤ d4 L := (foldl_max_ge L _).2 x h
theorem jL {L : List Int} {b : Int} (h0 : 0 < L.length) (h : ∀ x ∈ L, x ≤ b) : d4 L ≤ b := by
  refine foldl_max_le L _ b ?_ h
  cases L with
  | nil => simp at h0
  | cons x r => exact h x (by simp)
/-- How many there are of a label. -/
def cnt (L : List Int) (j : Nat) : Nat := (L.filter fun x => decide (x = Int.ofNat j)).length
def szs (M : Nat) (L : List Int) : List Int := (List.range M).map fun j => (cnt L j : Int)
theorem eT (M : Nat) (L : List Int) : (szs M L).length = M := by simp [szs]
theorem iK {M : Nat} {L : List Int} {j : Nat} (h : j < M) : (szs M L)[j]'(by rw [eT]; exact h) = (cnt L j : Int) := by simp [szs]
theorem szs_nil (M : Nat) : szs M [] = List.replicate M 0 := by
  apply List.ext_getElem (by simp [szs]);intro i h1 h2;rw [iK (by simpa [szs] using h1)]; simp [cnt]
theorem cnt_next {L : List Int} {k : Nat} (hk : k < L.length) (j : Nat) : cnt (L.take (k + 1)) j = cnt (L.take k) j + (if L[k] = Int.ofNat j then 1 else 0) := by
  unfold cnt; rw [kL hk]; simp
theorem szs_next {M : Nat} {L : List Int} {k v : Nat} (hk : k < L.length) (hv : L[k] = (v : Int)) (hM : v < M) : szs M (L.take (k + 1)) = (szs M (L.take k)).set v ((cnt (L.take k) v : Int) + 1) := by
  apply List.ext_getElem (by simp [szs]);intro i h1 h2;have hi : i < M := by simpa [szs] using h1
  rw [iK hi, List.getElem_set];rw [cnt_next hk, hv]
  by_cases e : v = i
  · subst e; simp
  · have e' : ¬ ((v : Int) = Int.ofNat i) := by show ¬ ((v : Int) = (i : Int)); omega
    simp only [if_neg e, if_neg e', iK hi, Nat.add_zero]
theorem cnt_le (L : List Int) (j : Nat) : cnt L j ≤ L.length := List.length_filter_le _ _
/-- The sizes of labels. -/
def cQ (L : List Int) : List Int := szs (d4 L + 1).toNat L
end Go.Proofs.YtjjogcnjcnpehaaGreat
