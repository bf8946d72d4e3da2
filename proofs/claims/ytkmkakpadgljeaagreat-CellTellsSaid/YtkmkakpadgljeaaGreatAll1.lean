import Derived.Test.YtkmkakpadgljeaaGreatAll0
import Derived.Test.YtkmkakpadgljeaaGreatFlyD
import Derived.Test.YtkmkakpadgljeaaGreatFlyMem
import Derived.Shelf.Sort.Plain
import Derived.Shelf.Slices.In.SortNone
import Derived.Test.YtkmkakpadgljeaaGreatFlyMap

/- natcut.order, slices.SortFunc, Compact and Clip over pairs, natcut.pairs. -/
namespace Go.Proofs.YtkmkakpadgljeaaGreat
open Go Go.RowKit Fly
set_option linter.unusedVariables false
set_option linter.unusedSimpArgs false


set_option linter.unusedSectionVars false
section
variable {α : Type} [DecidableEq α]
theorem cptk_put {l d : List α} {i j : Nat} (hj : j < l.length) (hij : i < j) (hd : d.length = l.length) (h0 : d.take i = cpt (l.take j)) (hdr : d.drop (j - 1) = l.drop (j - 1)) (hne : l[j] ≠ l[j - 1]'(by omega)) :
    (d.set i l[j]).take (i + 1) = cpt (l.take (j + 1)) ∧ (d.set i l[j]).drop j = l.drop j := by
  refine ⟨?_, ?_⟩
  · rw [cpt_next (by omega) hj, if_neg (fun e => hne e.symm), ← h0, List.take_succ_eq_append_getElem (show i < (d.set i l[j]).length by simp; omega), List.getElem_set_self, List.take_set_of_le (Nat.le_refl _)]
  · rw [List.drop_set_of_lt hij]
    have := congrArg (List.drop 1) hdr
    rw [List.drop_drop, List.drop_drop, show j - 1 + 1 = j by omega] at this
    exact this
theorem cptk_pass {l d : List α} {i j : Nat} (hj : j < l.length) (hj0 : 0 < j) (h0 : d.take i = cpt (l.take j)) (hdr : d.drop (j - 1) = l.drop (j - 1)) (he : l[j] = l[j - 1]'(by omega)) : d.take i = cpt (l.take (j + 1)) ∧ d.drop j = l.drop j := by
  refine ⟨by rw [cpt_next hj0 hj, if_pos he.symm]; exact h0, ?_⟩
  have := congrArg (List.drop 1) hdr
  rw [List.drop_drop, List.drop_drop, show j - 1 + 1 = j by omega] at this
  exact this
theorem dropk_get {l d : List α} {i j : Nat} (hd : d.length = l.length) (h : d.drop i = l.drop i) (hij : i ≤ j) (hj : j < l.length) : d[j]'(by omega) = l[j] := by
  have := congrArg (fun x => x[j - i]?) h
  simp only [List.getElem?_drop, show i + (j - i) = j by omega] at this
  rw [List.getElem?_eq_getElem (by omega), List.getElem?_eq_getElem hj] at this
  exact Option.some.inj this
theorem cptk_zero {enc : α → List Value} {sz : Nat} (hs : ∀ x, (enc x).length = sz) {d : List α} {i : Nat} (hi : i ≤ d.length) (sp ys : List Value) (hy : ys.length = (d.length - i) * sz) : setMany (d.flatMap enc ++ sp) (i * sz) ys = (d.take i).flatMap enc ++ (ys ++ sp) := by
  have e : d.flatMap enc ++ sp = (d.take i).flatMap enc ++ ((d.drop i).flatMap enc ++ sp) := by rw [← List.append_assoc, ← List.flatMap_append, List.take_append_drop]
  rw [e]
  exact setMany_append ys _ _ _ _ (by rw [flat_length enc hs, List.length_take, Nat.min_eq_left hi]) (by rw [flat_length enc hs, hy, List.length_drop])
end

set_option maxRecDepth 100000 in
theorem eqPr (x y : Pr) (w : World) : (Op.equalIn 10000 109 (.agg (prCs x).toArray) (.agg (prCs y).toArray)).run Tryz.prog w = .ok (decide (x = y)) w := by
  have hf : Tryz.prog.fieldsOf 109 = (match Tryz.prog.underlying 109 with | some (.struct fs) => fs | _ => #[]) := rfl
  rw [Tryz.underlying109] at hf
  rw [run_equalIn_struct (P := Tryz.prog) w 9999 109 _ _ (by rw [hf]; exact Tryz.underlying109) Tryz.stoodInHeld109, hf]
  obtain ⟨a, b⟩ := x
  obtain ⟨a', b'⟩ := y
  have ii : ∀ (k k' : IntKind) (p q : Int) (T : TypeId) (v : World), Tryz.prog.underlying T = some (.int k') → (Op.equalIn 9999 T (.int k p) (.int k q)).run Tryz.prog v = .ok (p == q) v := fun k k' p q T v h => run_equalIn_int v 9998 T k k' p q h
  simp only [Op.eqFields, prCs, part, Sem.run_bind, Sem.run_ite, Tryz.isAgg3, Result.andThen_ok, Sem.run_pure, ne_eq, Bool.false_eq_true, if_false]
  simp [ii _ _ _ _ _ _ Tryz.underlying3]
  by_cases h1 : a = a' <;> by_cases h2 : b = b' <;> simp [h1, h2]
theorem raw_next {l : List Arc} {i : Nat} (hi : i < l.length) : prRaw (l.take (i + 1)) = prRaw (l.take i) ++ (if l[i].src ≠ l[i].dst then [prOf l[i]] else []) := by
  unfold prRaw
  rw [List.take_succ_eq_append_getElem hi, List.filter_append, List.map_append]
  congr 1
  by_cases h : l[i].src = l[i].dst <;> simp [h]
theorem raw_len (l : List Arc) : (prRaw l).length ≤ l.length := by
  unfold prRaw; rw [List.length_map]; exact List.length_filter_le _ _
theorem raw_good {n : Nat} {l : List Arc} (hg : ∀ k (hk : k < l.length), 0 ≤ l[k].src ∧ l[k].src < (n : Int) ∧ 0 ≤ l[k].dst ∧ l[k].dst < (n : Int)) : ∀ a ∈ l, (0 ≤ a.src ∧ a.src < n) ∧ 0 ≤ a.dst ∧ a.dst < n := fun a ha => by
  obtain ⟨k, hk, rfl⟩ := List.mem_iff_getElem.1 ha
  have := hg k hk
  omega
theorem raw_ok {n : Nat} {l : List Arc} (hn : n ≤ 1024) (hg : ∀ k (hk : k < l.length), 0 ≤ l[k].src ∧ l[k].src < (n : Int) ∧ 0 ≤ l[k].dst ∧ l[k].dst < (n : Int)) : ∀ p ∈ prRaw l, POk p := fun p hp => by
  obtain ⟨a, ha, _, rfl⟩ := mem_prRaw.1 hp
  have := raw_good hg a ha
  unfold POk prOf
  simp only
  omega
theorem flat_toP (l : List F20) : l.flatMap (fun x => prCs (toP x)) = (l.map toP).flatMap prCs := by rw [List.flatMap_map]

set_option maxRecDepth 100000 in
set_option maxHeartbeats 4000000 in
theorem order_spec (x y : Pr) (w : World) (hx : POk x) (hy : POk y) : Meets Tryz.prog 89 [.agg (prCs x).toArray, .agg (prCs y).toArray] w [] (fun u _ => u = .int .i64 (ordP x y)) := by
 unfold POk at hx hy
 refine f_enter Tryz.func89 rfl Tryz.ntmps89 rfl Owns.nil ?_
 refine f_seq fun K1 kh1 => ?_
 refine f_region ?_
 refine f_step rfl rfl rfl (o_box rfl rfl fun b2 => ?_)
 refine f_step rfl rfl rfl (o_box rfl rfl fun b3 => ?_)
 refine f_stepP rfl rfl rfl (o_assign rfl) ?_
 refine f_done ?_
 refine f_tn (kh1 _ _ ?_)
 clear kh1
 refine f_seq fun K2 kh2 => ?_
 refine f_seq fun K3 kh3 => ?_
 refine f_region ?_
 refine f_stepP rfl rfl rfl (o_field fa109_0 rfl) ?_
 refine f_stepP rfl rfl rfl (o_load Tryz.isAgg3 rfl (rdA rfl)) ?_
 refine f_stepP rfl rfl rfl (o_field fa109_0 rfl) ?_
 refine f_stepP rfl rfl rfl (o_load Tryz.isAgg3 rfl (rdA rfl)) ?_
 refine f_stepP rfl rfl rfl (o_neq rfl rfl) ?_
 refine f_done ?_
 refine f_tn (kh3 _ _ ?_)
 clear kh3
 refine f_cond rfl (fun c9 => ?_) (fun c9 => ?_)
 ·
  refine f_seq fun K4 kh4 => ?_
  refine f_region ?_
  refine f_stepP rfl rfl rfl (o_field fa109_0 rfl) ?_
  refine f_stepP rfl rfl rfl (o_load Tryz.isAgg3 rfl (rdA rfl)) ?_
  refine f_stepP rfl rfl rfl (o_field fa109_0 rfl) ?_
  refine f_stepP rfl rfl rfl (o_load Tryz.isAgg3 rfl (rdA rfl)) ?_
  refine f_stepP rfl rfl rfl (o_sub rfl rfl _ (wrap_i64 (by omega))) ?_
  refine f_stepP rfl rfl rfl (o_assign rfl) ?_
  refine f_done ?_
  refine f_tn (kh4 _ _ ?_)
  clear kh4
  refine f_ret ?_
  refine f_tr ?_
  exact f_fin1 [] Tryz.results89 rfl Sub.nil (by rw [ordP, if_pos c9])
 ·
  refine f_skip ?_
  refine f_tn (kh2 _ _ ?_)
  clear kh2
  refine f_seq fun K5 kh5 => ?_
  refine f_region ?_
  refine f_stepP rfl rfl rfl (o_field fa109_1 rfl) ?_
  refine f_stepP rfl rfl rfl (o_load Tryz.isAgg3 rfl (rdA rfl)) ?_
  refine f_stepP rfl rfl rfl (o_field fa109_1 rfl) ?_
  refine f_stepP rfl rfl rfl (o_load Tryz.isAgg3 rfl (rdA rfl)) ?_
  refine f_stepP rfl rfl rfl (o_sub rfl rfl _ (wrap_i64 (by omega))) ?_
  refine f_stepP rfl rfl rfl (o_assign rfl) ?_
  refine f_done ?_
  refine f_tn (kh5 _ _ ?_)
  clear kh5
  refine f_ret ?_
  exact f_fin1 [] Tryz.results89 rfl Sub.nil (by rw [ordP, if_neg c9])


theorem SortPr_spec (A : Option Addr) (cap : Nat) (l : List Pr) (m : Seg) (w : World) (hp : ∀ p ∈ l, POk p) (ho : Own 109 2 (.slice A l.length cap) l.length (l.flatMap prCs) m) (hl : l.length < 4611686018427387904) (hw : Owns w [m]) :
    Meets Tryz.prog 88 [.slice A l.length cap, .func (.func 89) #[] #[]] w [m] (fun u own' => u = .tuple #[] ∧ ∃ (m' : Seg) (l2 : List Pr), own' = [m'] ∧ l2.Perm l ∧ l2.Pairwise (fun x y => x = y ∨ ltX x y) ∧ Own 109 2 (.slice A l2.length cap) l2.length (l2.flatMap prCs) m') := by
  obtain ⟨l2, e2, hp2, hs2⟩ := sorted_fin l hp
  have hlm : (l.map ofP).map toP = l := by
    rw [List.map_map]
    conv => rhs; rw [← List.map_id l]
    exact List.map_congr_left fun p h => to_of (hp p h)
  have h := meets_sortF Tryz.laysPr (E := 109) 2 Tryz.isAgg109 Tryz.sizeOf109 (fun x : F20 => prCs (toP x)) (fun x => prCs_len _) (fun x v hv => by simp [prCs] at hv; rcases hv with rfl | rfl <;> rfl) cfP swoF totF 89 Tryz.call89
    (fun x y W => order_spec (toP x) (toP y) W (toP_ok x) (toP_ok y)) A cap (l.map ofP) m w (by rw [flat_toP, hlm, List.length_map]; exact ho) (by rw [List.length_map]; exact hl) hw
  rw [List.length_map] at h
  refine h.mono ?_
  rintro u own' ⟨hu, m', e, ho2⟩
  rw [flat_toP, ← e2] at ho2
  exact ⟨hu, m', l2, e, hp2, hs2, by rw [hp2.length_eq]; exact ho2⟩

set_option maxRecDepth 100000 in
set_option maxHeartbeats 4000000 in
theorem CompactPr_spec (A : Option Addr) (cap : Nat) (l : List (Pr)) (m : Seg) (w : World) (ho : Own 109 2 (.slice A l.length cap) l.length (l.flatMap prCs) m) (hl : l.length ≤ 1000000000) (hw : Owns w [m]) :
    Meets Tryz.prog 91 [.slice A l.length cap] w [m] (fun u own' => ∃ m', own' = [m'] ∧ Own 109 2 u (cpt l).length ((cpt l).flatMap prCs) m') := by
 refine f_enter Tryz.func91 rfl Tryz.ntmps91 rfl hw ?_
 refine f_seq fun K1 kh1 => ?_
 refine f_region ?_
 refine f_stepP rfl rfl rfl (o_assign rfl) ?_
 refine f_done ?_
 refine f_tn (kh1 _ _ ?_)
 clear kh1
 refine f_seq fun K2 kh2 => ?_
 refine f_seq fun K3 kh3 => ?_
 refine f_region ?_
 refine f_stepP rfl rfl rfl (o_move rfl) ?_
 refine f_stepP rfl rfl rfl (o_len sl106 rfl) ?_
 refine f_stepP rfl rfl rfl (o_lss rfl rfl) ?_
 refine f_done ?_
 refine f_tn (kh3 _ _ ?_)
 clear kh3
 refine f_cond rfl (fun c8 => ?_) (fun c8 => ?_)
 ·
  have hcl : cpt l = l := by
    match l, c8 with
    | [], _ => rfl
    | [x], _ => rfl
    | x :: y :: r, h => simp at h; omega
  refine f_seq fun K4 kh4 => ?_
  refine f_region ?_
  refine f_stepP rfl rfl rfl (o_move rfl) ?_
  refine f_stepP rfl rfl rfl (o_assign rfl) ?_
  refine f_done ?_
  refine f_tn (kh4 _ _ ?_)
  clear kh4
  refine f_ret ?_
  refine f_tr ?_
  exact f_fin1 [m] Tryz.results91 rfl (Sub.pick Sub.nil) ⟨m, rfl, by rw [hcl]; exact ho⟩
 ·
  obtain ⟨b, sp, rfl, rfl, hup⟩ := ho.upd (by omega)
  obtain ⟨_, _, e_, hcap⟩ := ho.val
  cases e_
  have hspl : sp.length = (cap - l.length) * 2 := by
    obtain ⟨_, h | ⟨b', c', sp', e, hm, _, _, h3⟩⟩ := ho
    · omega
    · cases e
      have := List.append_cancel_left (Array.toList_inj.2 (show (l.flatMap prCs ++ sp).toArray = (l.flatMap prCs ++ sp').toArray by simpa using hm))
      rw [this]; exact h3
  refine f_skip ?_
  refine f_tn (kh2 _ _ ?_)
  clear kh2
  refine f_seq fun K5 kh5 => ?_
  refine f_seq fun K6 kh6 => ?_
  refine f_region ?_
  refine f_stepP rfl rfl rfl (o_assign rfl) ?_
  refine f_done ?_
  refine f_tn (kh6 _ _ ?_)
  clear kh6
  refine f_block ?_
  refine f_loopK (α := Nat) [0] (fun k => [(3, .int .i64 (k : Int))]) (fun k => 1 ≤ k ∧ k ≤ l.length ∧ cpt (l.take k) = l.take k) (fun k => l.length - k) (1) ?_ ?_ ?_
  · exact (by repeat (first | exact trivial | refine ⟨rfl, ?_⟩))
  · exact ⟨Nat.le_refl _, by omega, cpt_one (by omega)⟩
  ·
   rintro k ⟨hk1, hkl, hck⟩
   refine f_seq fun K7 kh7 => ?_
   refine f_seq fun K8 kh8 => ?_
   refine f_region ?_
   refine f_stepP rfl rfl rfl (o_move rfl) ?_
   refine f_stepP rfl rfl rfl (o_move rfl) ?_
   refine f_stepP rfl rfl rfl (o_len sl106 rfl) ?_
   refine f_stepP rfl rfl rfl (o_lss rfl rfl) ?_
   refine f_done ?_
   refine f_tn (kh8 _ _ ?_)
   clear kh8
   refine f_cond rfl (fun c13 => ?_) (fun c13 => ?_)
   ·
    have hk : k < l.length := by omega
    refine f_skip ?_
    refine f_tn (kh7 _ _ ?_)
    clear kh7
    refine f_seq fun K9 kh9 => ?_
    refine f_block ?_
    refine f_seq fun K10 kh10 => ?_
    refine f_regionS rfl (by decide +kernel) ?_
    refine f_stillP rfl rfl rfl (o_move rfl) ?_
    refine f_stillP rfl rfl rfl (o_move rfl) ?_
    refine f_stillP rfl rfl rfl (o_idx sl106 rfl rfl (k * 2) ⟨by omega, by omega, by first | omega | (simp; done) | (simp; omega)⟩) ?_
    refine f_stillP rfl rfl rfl (o_loadA (vs := prCs l[k]) Tryz.isAgg109 Tryz.sizeOf109 rfl rfl (rdsOwn prCs_len hk)) ?_
    refine f_stillP rfl rfl rfl (o_move rfl) ?_
    refine f_stillP rfl rfl rfl (o_move rfl) ?_
    refine f_stillP rfl rfl rfl (o_sub rfl rfl _ (wrap_i64 (by omega))) ?_
    refine f_stillP rfl rfl rfl (o_idx sl106 rfl rfl ((k - 1) * 2) ⟨by omega, by omega, by first | omega | (simp; done) | (simp; omega)⟩) ?_
    refine f_stillP rfl rfl rfl (o_loadA (vs := prCs l[k - 1]) Tryz.isAgg109 Tryz.sizeOf109 rfl rfl (rdsOwn prCs_len (by omega))) ?_
    refine f_stillP rfl rfl rfl (o_eqlA Tryz.eqGuardType109 (eqPr l[k] (l[k - 1])) rfl rfl) ?_
    refine f_stillD ?_
    refine f_tn (kh10 _ _ ?_)
    clear kh10
    refine f_cond rfl (fun c25 => ?_) (fun c25 => ?_)
    ·
     refine f_seq fun K11 kh11 => ?_
     refine f_region ?_
     refine f_stepP rfl rfl rfl (o_move rfl) ?_
     refine f_stepP rfl rfl rfl (o_move rfl) ?_
     refine f_stepP rfl rfl rfl (o_slice sl106 rfl rfl rfl rfl (fun h => by cases h) k _ _ (.inr ⟨_, _, rfl, by omega⟩) (.inl ⟨rfl, rfl⟩) (.inl ⟨rfl, rfl⟩) ⟨by omega, by omega, by omega⟩ (.slice (some ⟨b, k * 2, none⟩) (l.length - k) (cap - k)) (by rw [if_neg (by omega)]; simp [add_at])) ?_
     refine f_stepP rfl rfl rfl (o_assign rfl) ?_
     refine f_done ?_
     refine f_tn (kh11 _ _ ?_)
     clear kh11
     refine f_seq fun K12 kh12 => ?_
     refine f_seq fun K13 kh13 => ?_
     refine f_region ?_
     refine f_stepP rfl rfl rfl (o_assign rfl) ?_
     refine f_done ?_
     refine f_tn (kh13 _ _ ?_)
     clear kh13
     refine f_block ?_
     refine f_loop (α := Nat × Nat × List (Pr)) [0, 4] (fun ⟨q, i, d⟩ => [(5, .int .i64 (q : Int)), (3, .int .i64 (i : Int))]) (fun ⟨q, i, d⟩ => [[(b, blk (d.flatMap prCs ++ sp) 109)]]) (fun ⟨q, i, d⟩ => 1 ≤ q ∧ k + q ≤ l.length ∧ i < k + q ∧ d.length = l.length ∧ d.take i = cpt (l.take (k + q)) ∧ d.drop (k + q - 1) = l.drop (k + q - 1)) (fun ⟨q, i, d⟩ => l.length - (k + q)) (1, k, l) ?_ ?_ ?_ ?_
     · exact (by repeat (first | exact trivial | refine ⟨rfl, ?_⟩))
     · repeat (first | exact Sub.nil | refine Sub.pick ?_ | refine Sub.castO rfl ?_ | refine Sub.skip ?_)
     · exact ⟨Nat.le_refl _, by omega, by omega, rfl, by rw [cpt_next (by omega) hk, if_pos c25.symm, hck], rfl⟩
     ·
      rintro ⟨q, i, d⟩ ⟨hq1, hql, hik, hdl, hdt, hdd⟩
      refine f_envC (e := [(5, _), (3, _), (0, _), (4, _)]) (by repeat (first | exact trivial | refine ⟨rfl, ?_⟩)) ?_
      refine f_seq fun K14 kh14 => ?_
      refine f_seq fun K15 kh15 => ?_
      refine f_region ?_
      refine f_stepP rfl rfl rfl (o_move rfl) ?_
      refine f_stepP rfl rfl rfl (o_move rfl) ?_
      refine f_stepP rfl rfl rfl (o_len sl106 rfl) ?_
      refine f_stepP rfl rfl rfl (o_lss rfl rfl) ?_
      refine f_done ?_
      refine f_tn (kh15 _ _ ?_)
      clear kh15
      refine f_cond rfl (fun c32 => ?_) (fun c32 => ?_)
      ·
       have hj' : k + q < l.length := by omega
       have hd1 := dropk_get hdl hdd (j := k + q) (by omega) hj'
       have hd2 := dropk_get hdl hdd (j := k + q - 1) (Nat.le_refl _) (by omega)
       refine f_skip ?_
       refine f_tn (kh14 _ _ ?_)
       clear kh14
       refine f_seq fun K16 kh16 => ?_
       refine f_block ?_
       refine f_seq fun K17 kh17 => ?_
       refine f_regionS rfl (by decide +kernel) ?_
       refine f_stillP rfl rfl rfl (o_move rfl) ?_
       refine f_stillP rfl rfl rfl (o_move rfl) ?_
       refine f_stillP rfl rfl rfl (o_idx sl106 rfl rfl ((k + q) * 2) ⟨by omega, by omega, by first | omega | (simp; done) | (simp; omega)⟩) ?_
       refine f_stillP rfl rfl rfl (o_loadA (vs := prCs l[k + q]) Tryz.isAgg109 Tryz.sizeOf109 rfl rfl (by rw [← hd1]; exact rdsOwn prCs_len (by omega))) ?_
       refine f_stillP rfl rfl rfl (o_move rfl) ?_
       refine f_stillP rfl rfl rfl (o_move rfl) ?_
       refine f_stillP rfl rfl rfl (o_sub rfl rfl _ (wrap_i64 (by omega))) ?_
       refine f_stillP rfl rfl rfl (o_idx sl106 rfl rfl ((k + q - 1) * 2) ⟨by omega, by omega, by first | omega | (simp; done) | (simp; omega)⟩) ?_
       refine f_stillP rfl rfl rfl (o_loadA (vs := prCs l[k + q - 1]) Tryz.isAgg109 Tryz.sizeOf109 rfl rfl (by rw [← hd2]; exact rdsOwn prCs_len (by omega))) ?_
       refine f_stillP rfl rfl rfl (o_neqA Tryz.eqGuardType109 (eqPr l[k + q] (l[k + q - 1])) rfl rfl) ?_
       refine f_stillD ?_
       refine f_tn (kh17 _ _ ?_)
       clear kh17
       refine f_cond rfl (fun c44 => ?_) (fun c44 => ?_)
       ·
        refine f_seq fun K18 kh18 => ?_
        refine f_region ?_
        refine f_stepP rfl rfl rfl (o_move rfl) ?_
        refine f_stepP rfl rfl rfl (o_move rfl) ?_
        refine f_stepP rfl rfl rfl (o_move rfl) ?_
        refine f_stepP rfl rfl rfl (o_move rfl) ?_
        refine f_stepP rfl rfl rfl (o_idx sl106 rfl rfl ((k + q) * 2) ⟨by omega, by omega, by first | omega | (simp; done) | (simp; omega)⟩) ?_
        refine f_stepP rfl rfl rfl (o_loadA (vs := prCs l[k + q]) Tryz.isAgg109 Tryz.sizeOf109 rfl rfl (by rw [← hd1]; exact rdsOwn prCs_len (by omega))) ?_
        refine f_stepP rfl rfl rfl (o_idx sl106 rfl rfl (i * 2) ⟨by omega, by omega, by first | omega | (simp; done) | (simp; omega)⟩) ?_
        refine f_step0 rfl rfl (o_storeA Tryz.sizeOf109 rfl rfl rfl rfl (by show i * 2 + 2 ≤ _; rw [List.length_append, flat_length prCs prCs_len]; omega) ((d.set i l[k + q]).flatMap prCs ++ sp) (setMany_flat prCs_len sp _ _ _ (by omega)) ?_)
        refine f_done ?_
        refine f_tn (kh18 _ _ ?_)
        clear kh18
        refine f_region ?_
        refine f_stepP rfl rfl rfl (o_move rfl) ?_
        refine f_stepP rfl rfl rfl (o_add rfl rfl _ (wrap_i64 (by omega))) ?_
        refine f_stepP rfl rfl rfl (o_assign rfl) ?_
        refine f_done ?_
        refine f_bn ?_
        refine f_tn (kh16 _ _ ?_)
        clear kh16
        refine f_region ?_
        refine f_stepP rfl rfl rfl (o_move rfl) ?_
        refine f_stepP rfl rfl rfl (o_add rfl rfl _ (wrap_i64 (by omega))) ?_
        refine f_stepP rfl rfl rfl (o_assign rfl) ?_
        refine f_done ?_
        refine f_tn (f_again (q + 1, i + 1, d.set i l[k + q]) (by first | omega | (dsimp only; omega) | (simp; omega)) ⟨by omega, by omega, by omega, by simpa using hdl, (cptk_put hj' hik hdl hdt hdd c44).1, (cptk_put hj' hik hdl hdt hdd c44).2⟩ ?_ ?_ ?_)
        · exact (by repeat (first | exact trivial | refine ⟨rfl, ?_⟩))
        · exact (by repeat (first | exact trivial | refine ⟨rfl, ?_⟩))
        · repeat (first | exact Sub.nil | refine Sub.pick ?_ | refine Sub.castO rfl ?_ | refine Sub.skip ?_)
       ·
        refine f_skip ?_
        refine f_bn ?_
        refine f_tn (kh16 _ _ ?_)
        clear kh16
        refine f_region ?_
        refine f_stepP rfl rfl rfl (o_move rfl) ?_
        refine f_stepP rfl rfl rfl (o_add rfl rfl _ (wrap_i64 (by omega))) ?_
        refine f_stepP rfl rfl rfl (o_assign rfl) ?_
        refine f_done ?_
        refine f_tn (f_again (q + 1, i, d) (by first | omega | (dsimp only; omega) | (simp; omega)) ⟨by omega, by omega, by omega, hdl, (cptk_pass hj' (by omega) hdt hdd (by simpa using c44)).1, (cptk_pass hj' (by omega) hdt hdd (by simpa using c44)).2⟩ ?_ ?_ ?_)
        · exact (by repeat (first | exact trivial | refine ⟨rfl, ?_⟩))
        · exact (by repeat (first | exact trivial | refine ⟨rfl, ?_⟩))
        · repeat (first | exact Sub.nil | refine Sub.pick ?_ | refine Sub.castO rfl ?_ | refine Sub.skip ?_)
      ·
       refine f_exit ?_
       refine f_te ?_
       clear kh14
       refine f_te ?_
       refine f_be ?_
       refine f_tn (kh12 _ _ ?_)
       clear kh12
       refine f_seq fun K19 kh19 => ?_
       obtain rfl : q = l.length - k := by omega
       rw [show k + (l.length - k) = l.length by omega, List.take_length] at hdt
       have hiL : (cpt l).length = i := by rw [← hdt]; simp; omega
       refine f_region ?_
       refine f_stepP rfl rfl rfl (o_move rfl) ?_
       refine f_stepP rfl rfl rfl (o_move rfl) ?_
       refine f_stepP rfl rfl rfl (o_slice sl106 rfl rfl rfl rfl (fun h => by cases h) i _ _ (.inr ⟨_, _, rfl, by omega⟩) (.inl ⟨rfl, rfl⟩) (.inl ⟨rfl, rfl⟩) ⟨by omega, by omega, by omega⟩ (.slice (some ⟨b, i * 2, none⟩) (l.length - i) (cap - i)) (by rw [if_neg (by omega)]; simp [add_at])) ?_
       refine f_step0 rfl rfl (o_clear el106 rfl rfl (by rw [List.length_append, flat_length prCs prCs_len]; omega) ((d.take i).flatMap prCs ++ ((List.replicate (l.length - i) [.int .i64 0, .int .i64 0]).flatten ++ sp)) (cptk_zero prCs_len (by omega) sp _ (by rw [hdl]; simp)) ?_)
       refine f_done ?_
       refine f_tn (kh19 _ _ ?_)
       clear kh19
       refine f_seq fun K20 kh20 => ?_
       refine f_region ?_
       refine f_stepP rfl rfl rfl (o_move rfl) ?_
       refine f_stepP rfl rfl rfl (o_move rfl) ?_
       refine f_stepP rfl rfl rfl (o_slice sl106 rfl rfl rfl rfl (fun h => by cases h) 0 i cap (.inl ⟨rfl, rfl⟩) (.inr ⟨_, _, rfl, by omega⟩) (.inl ⟨rfl, rfl⟩) ⟨by omega, by omega, by omega⟩ (.slice (some ⟨b, 0, none⟩) i cap) (by rw [if_neg (by omega)]; simp [add_at])) ?_
       refine f_stepP rfl rfl rfl (o_assign rfl) ?_
       refine f_done ?_
       refine f_tn (kh20 _ _ ?_)
       clear kh20
       refine f_ret ?_
       refine f_br ?_
       refine f_tr ?_
       refine f_tr ?_
       refine f_br ?_
       refine f_tr ?_
       exact f_fin1 [[(b, blk ((d.take i).flatMap prCs ++ ((List.replicate (l.length - i) [.int .i64 0, .int .i64 0]).flatten ++ sp)) 109)]] Tryz.results91 rfl (by repeat (first | exact Sub.nil | refine Sub.pick ?_)) ⟨_, rfl, by rw [hiL, ← hdt]; exact ⟨by rw [flat_length prCs prCs_len, List.length_take, Nat.min_eq_left (by omega)], .inr ⟨b, cap, _, rfl, rfl, by omega, by omega, by rw [List.length_append, hspl]; simp; omega⟩⟩⟩
    ·
     refine f_skip ?_
     refine f_bn ?_
     refine f_tn (kh9 _ _ ?_)
     clear kh9
     refine f_region ?_
     refine f_stepP rfl rfl rfl (o_move rfl) ?_
     refine f_stepP rfl rfl rfl (o_add rfl rfl _ (wrap_i64 (by omega))) ?_
     refine f_stepP rfl rfl rfl (o_assign rfl) ?_
     refine f_done ?_
     refine f_tn (f_again (k + 1) (by first | omega | (dsimp only; omega) | (simp; omega)) ⟨by omega, by omega, by rw [cpt_next (by omega) hk, if_neg (fun e => c25 e.symm), hck, ← List.take_succ_eq_append_getElem hk]⟩ ?_ ?_ ?_)
     · exact (by repeat (first | exact trivial | refine ⟨rfl, ?_⟩))
     · exact (by repeat (first | exact trivial | refine ⟨rfl, ?_⟩))
     · repeat (first | exact Sub.nil | refine Sub.pick ?_ | refine Sub.castO rfl ?_ | refine Sub.skip ?_)
   ·
    refine f_exit ?_
    refine f_te ?_
    clear kh7
    refine f_te ?_
    refine f_be ?_
    refine f_tn (kh5 _ _ ?_)
    clear kh5
    refine f_seq fun K21 kh21 => ?_
    refine f_region ?_
    refine f_stepP rfl rfl rfl (o_move rfl) ?_
    refine f_stepP rfl rfl rfl (o_assign rfl) ?_
    refine f_done ?_
    refine f_tn (kh21 _ _ ?_)
    clear kh21
    refine f_ret ?_
    have hcl : cpt l = l := by rw [List.take_of_length_le (by omega)] at hck; exact hck
    exact f_fin1 [[(b, blk (l.flatMap prCs ++ sp) 109)]] Tryz.results91 rfl (by repeat (first | exact Sub.nil | refine Sub.pick ?_)) ⟨_, rfl, by rw [hcl]; exact ho⟩

set_option maxRecDepth 100000 in
set_option maxHeartbeats 4000000 in
theorem ClipPr_spec (A : Option Addr) (len cap : Nat) (w : World) (h : len ≤ cap) (hm : cap ≤ 9223372036854775807) (hA : A = none → len = 0) :
    Meets Tryz.prog 90 [.slice A len cap] w [] (fun u m => u = .slice A len len ∧ m = []) := by
 refine f_enter Tryz.func90 rfl Tryz.ntmps90 rfl Owns.nil ?_
 refine f_seq fun K1 kh1 => ?_
 refine f_region ?_
 refine f_stepP rfl rfl rfl (o_assign rfl) ?_
 refine f_done ?_
 refine f_tn (kh1 _ _ ?_)
 clear kh1
 refine f_seq fun K2 kh2 => ?_
 refine f_region ?_
 refine f_stepP rfl rfl rfl (o_move rfl) ?_
 refine f_stepP rfl rfl rfl (o_move rfl) ?_
 refine f_stepP rfl rfl rfl (o_len sl106 rfl) ?_
 refine f_stepP rfl rfl rfl (o_move rfl) ?_
 refine f_stepP rfl rfl rfl (o_len sl106 rfl) ?_
 refine f_stepP rfl rfl rfl (o_slice sl106 rfl rfl rfl rfl (fun _ => rfl) 0 len len (.inl ⟨rfl, rfl⟩) (.inr ⟨_, _, rfl, by omega⟩) (.inr ⟨_, _, rfl, by omega⟩) ⟨by omega, by omega, by omega⟩ (.slice A len len) (by rw [Nat.sub_zero]; congr 1; split; rfl; cases A with | none => rfl | some x => obtain ⟨p, q, r⟩ := x; cases r <;> simp [Addr.add])) ?_
 refine f_stepP rfl rfl rfl (o_assign rfl) ?_
 refine f_done ?_
 refine f_tn (kh2 _ _ ?_)
 clear kh2
 refine f_ret ?_
 exact f_fin1 [] Tryz.results90 rfl Sub.nil ⟨rfl, rfl⟩

set_option maxRecDepth 100000 in
set_option maxHeartbeats 4000000 in
theorem pairs_spec (n : Nat) (A : Option Addr) (l : List Arc) (cap : Nat) (w : World) (hr : Ro (Fr w []) w A (l.flatMap arcCs)) (hg : (gcheck (n : Int) l).2 = 0) :
    Meets Tryz.prog 85 [.agg #[.int .i64 (n : Int), .slice A l.length cap]] w [] (fun u own' => ∃ A' m', u = .slice A' (prs n l).length (prs n l).length ∧ own' = [m'] ∧ ∃ c, Own 109 2 (.slice A' (prs n l).length c) (prs n l).length ((prs n l).flatMap prCs) m') := by
 obtain ⟨hn1, hn2, hlen, hgd⟩ := gcheck_zero hg
 refine f_enter Tryz.func85 rfl Tryz.ntmps85 rfl Owns.nil ?_
 refine f_seq fun K1 kh1 => ?_
 refine f_region ?_
 refine f_step rfl rfl rfl (o_box rfl rfl fun b1 => ?_)
 refine f_stepP rfl rfl rfl (o_assign rfl) ?_
 refine f_done ?_
 refine f_tn (kh1 _ _ ?_)
 clear kh1
 refine f_seq fun K2 kh2 => ?_
 refine f_region ?_
 refine f_stepP rfl rfl rfl (o_assign rfl) ?_
 refine f_done ?_
 refine f_tn (kh2 _ _ ?_)
 clear kh2
 refine f_seq fun K3 kh3 => ?_
 refine f_seq fun K4 kh4 => ?_
 refine f_region ?_
 refine f_stepP rfl rfl rfl (o_field fa24_1 rfl) ?_
 refine f_stepP rfl rfl rfl (o_load Tryz.isAgg22 rfl (rdA rfl)) ?_
 refine f_stepP rfl rfl rfl (o_len sl22 rfl) ?_
 refine f_stepP rfl rfl rfl (o_move rfl) ?_
 refine f_done ?_
 refine f_tn (kh4 _ _ ?_)
 clear kh4
 refine f_block ?_
 refine f_loop (α := Nat × Value × Seg) [7, 8] (fun ⟨i, vo, mo⟩ => [(9, .int .i64 (i : Int)), (3, vo)]) (fun ⟨i, vo, mo⟩ => [mo, [(b1, blk [.int .i64 (n : Int), .slice A l.length cap] 24)]]) (fun ⟨i, vo, mo⟩ => i ≤ l.length ∧ Own 109 2 vo (prRaw (l.take i)).length ((prRaw (l.take i)).flatMap prCs) mo) (fun ⟨i, vo, mo⟩ => l.length - i) (0, .slice none 0 0, []) ?_ ?_ ?_ ?_
 · exact (by repeat (first | exact trivial | refine ⟨rfl, ?_⟩))
 · repeat (first | exact Sub.nil | refine Sub.pick ?_ | refine Sub.castO rfl ?_ | refine Sub.skip ?_)
 · exact ⟨by omega, Own.nil _ _⟩
 ·
  rintro ⟨i, vo, mo⟩ ⟨hil, ho1⟩
  have hrl := raw_len (l.take i)
  rw [List.length_take] at hrl
  refine f_seq fun K5 kh5 => ?_
  refine f_region ?_
  refine f_stepP rfl rfl rfl (o_lss rfl rfl) ?_
  refine f_done ?_
  refine f_tn (kh5 _ _ ?_)
  clear kh5
  refine f_seq fun K6 kh6 => ?_
  refine f_cond rfl (fun c10 => ?_) (fun c10 => ?_)
  ·
   have hi : i < l.length := by omega
   obtain ⟨bq, off, rfl, hS, hc⟩ := hr (flat_ne arcCs arcCs_len (by omega) hi)
   refine f_skip ?_
   refine f_tn (kh6 _ _ ?_)
   clear kh6
   refine f_seq fun K7 kh7 => ?_
   refine f_block ?_
   refine f_seq fun K8 kh8 => ?_
   refine f_region ?_
   refine f_stepP rfl rfl rfl (o_idx sl22 rfl rfl (off + i * 3) ⟨by omega, by omega, by first | omega | (simp; done) | (simp; omega)⟩) ?_
   refine f_stepP rfl rfl rfl (o_loadA (vs := arcCs l[i]) Tryz.isAgg48 Tryz.sizeOf48 rfl rfl (roElem arcCs_len hS hc hi)) ?_
   refine f_step rfl rfl rfl (o_alloc Tryz.zeroValue48 rfl fun b5 => ?_)
   refine f_step0 rfl rfl (o_storeA Tryz.sizeOf48 rfl rfl rfl rfl (by first | exact Nat.le_of_ble_eq_true rfl | (simp; done) | (simp; omega)) (arcCs l[i]) rfl ?_)
   refine f_done ?_
   refine f_tn (kh8 _ _ ?_)
   clear kh8
   refine f_seq fun K9 kh9 => ?_
   refine f_region ?_
   refine f_stepP rfl rfl rfl (o_field fa48_0 rfl) ?_
   refine f_stepP rfl rfl rfl (o_load Tryz.isAgg3 rfl (rdA rfl)) ?_
   refine f_stepP rfl rfl rfl (o_field fa48_1 rfl) ?_
   refine f_stepP rfl rfl rfl (o_load Tryz.isAgg3 rfl (rdA rfl)) ?_
   refine f_stepP rfl rfl rfl (o_neq rfl rfl) ?_
   refine f_done ?_
   refine f_tn (kh9 _ _ ?_)
   clear kh9
   refine f_cond rfl (fun c17 => ?_) (fun c17 => ?_)
   ·
    have hq : prRaw (l.take (i + 1)) = prRaw (l.take i) ++ [prOf l[i]] := by rw [raw_next hi, if_pos c17]
    refine f_region ?_
    refine f_stepP rfl rfl rfl (o_move rfl) ?_
    refine f_stepP rfl rfl rfl (o_field fa48_0 rfl) ?_
    refine f_stepP rfl rfl rfl (o_load Tryz.isAgg3 rfl (rdA rfl)) ?_
    refine f_stepP rfl rfl rfl (o_field fa48_1 rfl) ?_
    refine f_stepP rfl rfl rfl (o_load Tryz.isAgg3 rfl (rdA rfl)) ?_
    refine f_stepP rfl rfl rfl (o_min rfl rfl) ?_
    refine f_stepP rfl rfl rfl (o_field fa48_0 rfl) ?_
    refine f_stepP rfl rfl rfl (o_load Tryz.isAgg3 rfl (rdA rfl)) ?_
    refine f_stepP rfl rfl rfl (o_field fa48_1 rfl) ?_
    refine f_stepP rfl rfl rfl (o_load Tryz.isAgg3 rfl (rdA rfl)) ?_
    refine f_stepP rfl rfl rfl (o_max rfl rfl) ?_
    refine f_stepP rfl rfl rfl (o_build (cs := prCs (prOf l[i])) st109 rfl rfl) ?_
    refine f_step rfl rfl rfl (o_slice1 el106 (by omega) rfl rfl rfl fun b30 => ?_)
    refine f_step rfl rfl rfl (o_append el106 rfl rfl ho1 (ys := prCs (prOf l[i])) ⟨(rdA rfl), (rdA rfl), trivial⟩ rfl rfl (by omega) (by omega) fun v31 m31 o31 => ?_)
    refine f_stepP rfl rfl rfl (o_assign rfl) ?_
    refine f_done ?_
    refine f_bn ?_
    refine f_tn (kh7 _ _ ?_)
    clear kh7
    refine f_region ?_
    refine f_stepP rfl rfl rfl (o_add rfl rfl _ (wrap_i64 (by omega))) ?_
    refine f_stepP rfl rfl rfl (o_move rfl) ?_
    refine f_done ?_
    refine f_tn (f_again (i + 1, v31, m31) (by first | omega | (dsimp only; omega) | (simp; omega)) ⟨by omega, by rw [hq, List.length_append, List.flatMap_append]; simpa using o31⟩ ?_ ?_ ?_)
    · exact (by repeat (first | exact trivial | refine ⟨rfl, ?_⟩))
    · exact (by repeat (first | exact trivial | refine ⟨rfl, ?_⟩))
    · repeat (first | exact Sub.nil | refine Sub.pick ?_ | refine Sub.castO rfl ?_ | refine Sub.skip ?_)
   ·
    have hq : prRaw (l.take (i + 1)) = prRaw (l.take i) := by rw [raw_next hi, if_neg c17, List.append_nil]
    refine f_skip ?_
    refine f_bn ?_
    refine f_tn (kh7 _ _ ?_)
    clear kh7
    refine f_region ?_
    refine f_stepP rfl rfl rfl (o_add rfl rfl _ (wrap_i64 (by omega))) ?_
    refine f_stepP rfl rfl rfl (o_move rfl) ?_
    refine f_done ?_
    refine f_tn (f_again (i + 1, vo, mo) (by first | omega | (dsimp only; omega) | (simp; omega)) ⟨by omega, by rw [hq]; exact ho1⟩ ?_ ?_ ?_)
    · exact (by repeat (first | exact trivial | refine ⟨rfl, ?_⟩))
    · exact (by repeat (first | exact trivial | refine ⟨rfl, ?_⟩))
    · repeat (first | exact Sub.nil | refine Sub.pick ?_ | refine Sub.castO rfl ?_ | refine Sub.skip ?_)
  ·
   refine f_exit ?_
   refine f_te ?_
   clear kh6
   refine f_te ?_
   refine f_be ?_
   refine f_tn (kh3 _ _ ?_)
   clear kh3
   refine f_seq fun K10 kh10 => ?_
   obtain rfl : i = l.length := by omega
   rw [List.take_length] at ho1
   have hrl2 := raw_len l
   obtain ⟨Ao, co, rfl, hco⟩ := ho1.val
   have hok : ∀ p ∈ prRaw l, POk p := raw_ok (by omega) hgd
   refine f_region ?_
   refine f_stepP rfl rfl rfl (o_move rfl) ?_
   refine f_step rfl rfl rfl (o_callM [mo] _ Tryz.call88 rfl (by repeat (first | exact Sub.refl | refine Sub.pick ?_)) (fun w_ hp_ => SortPr_spec Ao co (prRaw l) mo w_ hok ho1 (by omega) hp_.owns) ?_)
   rintro _ _ ⟨rfl, m2, l2, rfl, hp2, hs2, ho2⟩
   have hl2 := hp2.length_eq
   have hcp := prs_is (n := n) (raw_good hgd) hp2 hs2
   rw [← hl2]
   dsimp only [List.cons_append, List.nil_append]
   refine f_done ?_
   refine f_tn (kh10 _ _ ?_)
   clear kh10
   refine f_seq fun K11 kh11 => ?_
   refine f_region ?_
   refine f_stepP rfl rfl rfl (o_move rfl) ?_
   refine f_step rfl rfl rfl (o_callM [m2] _ Tryz.call91 rfl (by repeat (first | exact Sub.refl | refine Sub.pick ?_)) (fun w_ hp_ => CompactPr_spec Ao co l2 m2 w_ ho2 (by omega) hp_.owns) ?_)
   rintro v36 _ ⟨m3, rfl, ho3⟩
   rw [hcp] at ho3
   obtain ⟨A3, c3, rfl, hc3⟩ := ho3.val
   dsimp only [List.cons_append, List.nil_append]
   refine f_step rfl rfl rfl (o_call Tryz.call90 rfl (fun w_ hp_ => ClipPr_spec A3 (prs n l).length c3 w_ hc3.1 hc3.2 (own_none ho3)) ?_)
   rintro _ _ ⟨rfl, rfl⟩
   dsimp only [List.cons_append, List.nil_append]
   refine f_stepP rfl rfl rfl (o_assign rfl) ?_
   refine f_done ?_
   refine f_tn (kh11 _ _ ?_)
   clear kh11
   refine f_ret ?_
   exact f_fin1 [m3] Tryz.results85 rfl (by repeat (first | exact Sub.nil | refine Sub.pick ?_ | refine Sub.castO rfl ?_)) ⟨A3, m3, rfl, rfl, c3, ho3⟩

end Go.Proofs.YtkmkakpadgljeaaGreat

/- Labels: which are right, how many there are of each, pairs between them. -/

namespace Go.Proofs.YtkmkakpadgljeaaGreat
open Go Fly
set_option linter.unusedVariables false
set_option linter.unusedSimpArgs false
set_option linter.unusedSectionVars false

/-- The labels behind n that have come. -/
def rgo : Int → List Int → Bool
  | _, [] => true
  | n, l :: r => if l < 0 ∨ n < l then false else rgo (if l = n then n + 1 else n) r
def rightB (N : Int) (L : List Int) : Bool := rgo 0 L && decide ((L.length : Int) = N)
theorem rgo_drop {L : List Int} {k : Nat} (hk : k < L.length) (n : Int) : rgo n (L.drop k) = if L[k] < 0 ∨ n < L[k] then false else rgo (if L[k] = n then n + 1 else n) (L.drop (k + 1)) := by
  rw [← List.getElem_cons_drop hk]; rfl
theorem rgo_end {L : List Int} {k : Nat} (hk : L.length ≤ k) (n : Int) : rgo n (L.drop k) = true := by
  rw [List.drop_eq_nil_of_le hk]; rfl
theorem rgo_pos : ∀ {L : List Int} {n : Int}, rgo n L = true → ∀ x ∈ L, 0 ≤ x
  | [], _, _, x, hx => by cases hx
  | l :: r, n, h, x, hx => by
    unfold rgo at h
    split at h
    · cases h
    · rcases List.mem_cons.1 hx with rfl | hx
      · omega
      · exact rgo_pos h x hx
theorem rgo_lt : ∀ {L : List Int} {n : Int}, rgo n L = true → ∀ x ∈ L, x < n + L.length
  | [], _, _, x, hx => by cases hx
  | l :: r, n, h, x, hx => by
    unfold rgo at h
    split at h
    · cases h
    · rcases List.mem_cons.1 hx with rfl | hx
      · simp only [List.length_cons]; omega
      · have := rgo_lt h x hx
        simp only [List.length_cons]
        split at this <;> omega

/-- Whether a pair is between two labels. -/
def apart (L : List Int) (p : Pr) : Bool := decide (L.getD p.1.toNat 0 ≠ L.getD p.2.toNat 0)
/-- How many pairs are between labels. -/
def cutN (n : Nat) (l : List Arc) (L : List Int) : Nat := ((prs n l).filter (apart L)).length
def lcount (N : Int) (l : List Arc) (L : List Int) : Int × Int :=
  if (gcheck N l).2 ≠ 0 then (0, (gcheck N l).2) else if rightB N L = false then (0, 80) else ((cutN N.toNat l L : Int), 0)
theorem prs_rng {n : Nat} {l : List Arc} {p : Pr} (h : p ∈ prs n l) : (0 ≤ p.1 ∧ p.1 < n) ∧ 0 ≤ p.2 ∧ p.2 < n := mem_allP.1 (List.mem_filter.1 h).1
theorem prs_len {n : Nat} (hn : n ≤ 1024) (l : List Arc) : (prs n l).length ≤ 1048576 := by
  unfold prs
  refine Nat.le_trans (List.length_filter_le _ _) ?_
  rw [allP_len]
  exact Nat.le_trans (Nat.mul_le_mul hn hn) (by decide)
theorem filt_len_next {α : Type} {q : α → Bool} {l : List α} {i : Nat} (hi : i < l.length) : ((l.take (i + 1)).filter q).length = ((l.take i).filter q).length + (if q l[i] then 1 else 0) := by
  rw [List.take_succ_eq_append_getElem hi, List.filter_append, List.length_append]
  congr 1
  by_cases h : q l[i] <;> simp [h]

/-- The greatest of some numbers. -/
def maxL (L : List Int) : Int := L.foldl max (L.headD 0)
theorem max_next {L : List Int} {k : Nat} (hk : k < L.length) : (L.take (k + 1)).foldl max (L.headD 0) = max ((L.take k).foldl max (L.headD 0)) L[k] := by
  rw [List.take_succ_eq_append_getElem hk, List.foldl_append]; rfl
theorem max_one {L : List Int} (h : 0 < L.length) : (L.take 1).foldl max (L.headD 0) = L[0] := by
  cases L with
  | nil => simp at h
  | cons x r => simp
theorem foldl_max_ge : ∀ (L : List Int) (a : Int), a ≤ L.foldl max a ∧ ∀ x ∈ L, x ≤ L.foldl max a
  | [], a => ⟨Int.le_refl _, fun x hx => by cases hx⟩
  | y :: L, a => by
    obtain ⟨h1, h2⟩ := foldl_max_ge L (max a y)
    simp only [List.foldl_cons]
    refine ⟨by omega, fun x hx => ?_⟩
    rcases List.mem_cons.1 hx with rfl | hx
    · omega
    · exact h2 x hx
theorem foldl_max_le : ∀ (L : List Int) (a b : Int), a ≤ b → (∀ x ∈ L, x ≤ b) → L.foldl max a ≤ b
  | [], a, b, h, _ => h
  | y :: L, a, b, h, hx => foldl_max_le L (max a y) b (by have := hx y (by simp); omega) fun x hm => hx x (by simp [hm])
theorem le_maxL {L : List Int} {x : Int} (h : x ∈ L) : x ≤ maxL L := (foldl_max_ge L _).2 x h
theorem maxL_le {L : List Int} {b : Int} (h0 : 0 < L.length) (h : ∀ x ∈ L, x ≤ b) : maxL L ≤ b := by
  refine foldl_max_le L _ b ?_ h
  cases L with
  | nil => simp at h0
  | cons x r => exact h x (by simp)

/-- How many there are of a label. -/
def cnt (L : List Int) (j : Nat) : Nat := (L.filter fun x => decide (x = Int.ofNat j)).length
def szs (M : Nat) (L : List Int) : List Int := (List.range M).map fun j => (cnt L j : Int)
theorem szs_len (M : Nat) (L : List Int) : (szs M L).length = M := by simp [szs]
theorem szs_get {M : Nat} {L : List Int} {j : Nat} (h : j < M) : (szs M L)[j]'(by rw [szs_len]; exact h) = (cnt L j : Int) := by simp [szs]
theorem szs_nil (M : Nat) : szs M [] = List.replicate M 0 := by
  apply List.ext_getElem (by simp [szs])
  intro i h1 h2
  rw [szs_get (by simpa [szs] using h1)]; simp [cnt]
theorem cnt_next {L : List Int} {k : Nat} (hk : k < L.length) (j : Nat) : cnt (L.take (k + 1)) j = cnt (L.take k) j + (if L[k] = Int.ofNat j then 1 else 0) := by
  unfold cnt; rw [filt_len_next hk]; simp
theorem szs_next {M : Nat} {L : List Int} {k v : Nat} (hk : k < L.length) (hv : L[k] = (v : Int)) (hM : v < M) : szs M (L.take (k + 1)) = (szs M (L.take k)).set v ((cnt (L.take k) v : Int) + 1) := by
  apply List.ext_getElem (by simp [szs])
  intro i h1 h2
  have hi : i < M := by simpa [szs] using h1
  rw [szs_get hi, List.getElem_set]
  rw [cnt_next hk, hv]
  by_cases e : v = i
  · subst e; simp
  · have e' : ¬ ((v : Int) = Int.ofNat i) := by show ¬ ((v : Int) = (i : Int)); omega
    simp only [if_neg e, if_neg e', szs_get hi, Nat.add_zero]
theorem cnt_le (L : List Int) (j : Nat) : cnt L j ≤ L.length := List.length_filter_le _ _
/-- The sizes of labels. -/
def sizesL (L : List Int) : List Int := szs (maxL L + 1).toNat L
end Go.Proofs.YtkmkakpadgljeaaGreat

/- natcut.right, natcut.Count, slices.Max, split.sizes, split.looked, split.Sizes. -/
namespace Go.Proofs.YtkmkakpadgljeaaGreat
open Go Go.RowKit Fly
set_option linter.unusedVariables false
set_option linter.unusedSimpArgs false

set_option maxRecDepth 100000 in
set_option maxHeartbeats 4000000 in
theorem right_spec (N : Int) (A B : Option Addr) (ln cap : Nat) (L : List Int) (cb : Nat) (w : World) (hL : Ro (Fr w []) w B (ints L)) (hm : L.length ≤ 9223372036854775807) :
    Meets Tryz.prog 84 [.agg #[.int .i64 N, .slice A ln cap], .slice B L.length cb] w [] (fun u m => u = .bool (rightB N L) ∧ m = []) := by
 refine f_enter Tryz.func84 rfl Tryz.ntmps84 rfl Owns.nil ?_
 refine f_seq fun K1 kh1 => ?_
 refine f_region ?_
 refine f_step rfl rfl rfl (o_box rfl rfl fun b2 => ?_)
 refine f_stepP rfl rfl rfl (o_assign rfl) ?_
 refine f_done ?_
 refine f_tn (kh1 _ _ ?_)
 clear kh1
 refine f_seq fun K2 kh2 => ?_
 refine f_region ?_
 refine f_stepP rfl rfl rfl (o_assign rfl) ?_
 refine f_done ?_
 refine f_tn (kh2 _ _ ?_)
 clear kh2
 refine f_seq fun K3 kh3 => ?_
 refine f_seq fun K4 kh4 => ?_
 refine f_region ?_
 refine f_stepP rfl rfl rfl (o_move rfl) ?_
 refine f_stepP rfl rfl rfl (o_len sl25 rfl) ?_
 refine f_stepP rfl rfl rfl (o_move rfl) ?_
 refine f_done ?_
 refine f_tn (kh4 _ _ ?_)
 clear kh4
 refine f_block ?_
 refine f_loopK (α := Nat × Int) [1, 2, 8, 9] (fun ⟨k, q⟩ => [(10, .int .i64 (k : Int)), (5, .int .i64 q)]) (fun ⟨k, q⟩ => k ≤ L.length ∧ 0 ≤ q ∧ q ≤ k ∧ rgo 0 L = rgo q (L.drop k)) (fun ⟨k, q⟩ => L.length - k) (0, 0) ?_ ?_ ?_
 · exact (by repeat (first | exact trivial | refine ⟨rfl, ?_⟩))
 · exact ⟨by omega, by omega, by omega, by rw [List.drop_zero]⟩
 ·
  rintro ⟨k, q⟩ ⟨hkl, hq0, hqk, hrg⟩
  refine f_seq fun K5 kh5 => ?_
  refine f_region ?_
  refine f_stepP rfl rfl rfl (o_lss rfl rfl) ?_
  refine f_done ?_
  refine f_tn (kh5 _ _ ?_)
  clear kh5
  refine f_seq fun K6 kh6 => ?_
  refine f_cond rfl (fun c11 => ?_) (fun c11 => ?_)
  ·
   have hk : k < L.length := by omega
   obtain ⟨bb, ob, rfl, hSb, hcb⟩ := hL (fun e => by have := ints_length L; rw [e] at this; simp at this; omega)
   have hrd := rgo_drop hk q
   refine f_skip ?_
   refine f_tn (kh6 _ _ ?_)
   clear kh6
   refine f_seq fun K7 kh7 => ?_
   refine f_block ?_
   refine f_seq fun K8 kh8 => ?_
   refine f_region ?_
   refine f_stepP rfl rfl rfl (o_idx sl25 rfl rfl (ob + k) ⟨by omega, by omega, by first | omega | (simp; done) | (simp; omega)⟩) ?_
   refine f_stepP rfl rfl rfl (o_load Tryz.isAgg3 rfl (roOne (enc := (.int .i64 ·)) hSb hcb hk)) ?_
   refine f_stepP rfl rfl rfl (o_assign rfl) ?_
   refine f_done ?_
   refine f_tn (kh8 _ _ ?_)
   clear kh8
   refine f_seq fun K9 kh9 => ?_
   refine f_seq fun K10 kh10 => ?_
   refine f_region ?_
   refine f_stepP rfl rfl rfl (o_move rfl) ?_
   refine f_stepP rfl rfl rfl (o_lss rfl rfl) ?_
   refine f_stepP rfl rfl rfl (o_move rfl) ?_
   refine f_splitL 16 rfl (fun g16 => ?_) (fun g16 => ?_)
   ·
    refine f_stepN rfl rfl rfl rfl rfl rfl ?_
    refine f_stepN rfl rfl rfl rfl rfl rfl ?_
    refine f_stepN rfl rfl rfl rfl rfl rfl ?_
    refine f_stepP rfl rfl rfl (o_pickT rfl rfl) ?_
    refine f_done ?_
    refine f_tn (kh10 _ _ ?_)
    clear kh10
    refine f_condT rfl ?_
    refine f_seq fun K11 kh11 => ?_
    refine f_region ?_
    refine f_stepP rfl rfl rfl (o_assign rfl) ?_
    refine f_done ?_
    refine f_tn (kh11 _ _ ?_)
    clear kh11
    refine f_ret ?_
    refine f_tr ?_
    refine f_br ?_
    refine f_tr ?_
    refine f_tr ?_
    refine f_br ?_
    refine f_tr ?_
    have e : rightB N L = false := by rw [rightB, hrg, hrd, if_pos (.inl g16)]; rfl
    exact f_fin1 [] Tryz.results84 rfl Sub.nil ⟨by rw [e], rfl⟩
   ·
    refine f_stepPY rfl rfl rfl rfl rfl (o_move rfl) ?_
    refine f_stepPY rfl rfl rfl rfl rfl (o_move rfl) ?_
    refine f_stepPY rfl rfl rfl rfl rfl (o_gtr rfl rfl) ?_
    refine f_stepP rfl rfl rfl (o_pickF rfl rfl) ?_
    refine f_done ?_
    refine f_tn (kh10 _ _ ?_)
    clear kh10
    refine f_cond rfl (fun c20 => ?_) (fun c20 => ?_)
    ·
     refine f_seq fun K12 kh12 => ?_
     refine f_region ?_
     refine f_stepP rfl rfl rfl (o_assign rfl) ?_
     refine f_done ?_
     refine f_tn (kh12 _ _ ?_)
     clear kh12
     refine f_ret ?_
     refine f_tr ?_
     refine f_br ?_
     refine f_tr ?_
     refine f_tr ?_
     refine f_br ?_
     refine f_tr ?_
     have e : rightB N L = false := by rw [rightB, hrg, hrd, if_pos (.inr (by omega))]; rfl
     exact f_fin1 [] Tryz.results84 rfl Sub.nil ⟨by rw [e], rfl⟩
    ·
     refine f_skip ?_
     refine f_tn (kh9 _ _ ?_)
     clear kh9
     refine f_seq fun K13 kh13 => ?_
     refine f_region ?_
     refine f_stepP rfl rfl rfl (o_move rfl) ?_
     refine f_stepP rfl rfl rfl (o_move rfl) ?_
     refine f_stepP rfl rfl rfl (o_eql rfl rfl) ?_
     refine f_done ?_
     refine f_tn (kh13 _ _ ?_)
     clear kh13
     refine f_cond rfl (fun c23 => ?_) (fun c23 => ?_)
     ·
      rw [if_neg (by omega), if_pos c23] at hrd
      refine f_region ?_
      refine f_stepP rfl rfl rfl (o_move rfl) ?_
      refine f_stepP rfl rfl rfl (o_add rfl rfl _ (wrap_i64 (by omega))) ?_
      refine f_stepP rfl rfl rfl (o_assign rfl) ?_
      refine f_done ?_
      refine f_bn ?_
      refine f_tn (kh7 _ _ ?_)
      clear kh7
      refine f_region ?_
      refine f_stepP rfl rfl rfl (o_add rfl rfl _ (wrap_i64 (by omega))) ?_
      refine f_stepP rfl rfl rfl (o_move rfl) ?_
      refine f_done ?_
      refine f_tn (f_again (k + 1, q + 1) (by first | omega | (dsimp only; omega) | (simp; omega)) ⟨by omega, by omega, by omega, hrg.trans hrd⟩ ?_ ?_ ?_)
      · exact (by repeat (first | exact trivial | refine ⟨rfl, ?_⟩))
      · exact (by repeat (first | exact trivial | refine ⟨rfl, ?_⟩))
      · repeat (first | exact Sub.nil | refine Sub.pick ?_ | refine Sub.castO rfl ?_ | refine Sub.skip ?_)
     ·
      rw [if_neg (by omega), if_neg c23] at hrd
      refine f_skip ?_
      refine f_bn ?_
      refine f_tn (kh7 _ _ ?_)
      clear kh7
      refine f_region ?_
      refine f_stepP rfl rfl rfl (o_add rfl rfl _ (wrap_i64 (by omega))) ?_
      refine f_stepP rfl rfl rfl (o_move rfl) ?_
      refine f_done ?_
      refine f_tn (f_again (k + 1, q) (by first | omega | (dsimp only; omega) | (simp; omega)) ⟨by omega, by omega, by omega, hrg.trans hrd⟩ ?_ ?_ ?_)
      · exact (by repeat (first | exact trivial | refine ⟨rfl, ?_⟩))
      · exact (by repeat (first | exact trivial | refine ⟨rfl, ?_⟩))
      · repeat (first | exact Sub.nil | refine Sub.pick ?_ | refine Sub.castO rfl ?_ | refine Sub.skip ?_)
  ·
   refine f_exit ?_
   refine f_te ?_
   clear kh6
   refine f_te ?_
   refine f_be ?_
   refine f_tn (kh3 _ _ ?_)
   clear kh3
   refine f_seq fun K14 kh14 => ?_
   refine f_region ?_
   refine f_stepP rfl rfl rfl (o_move rfl) ?_
   refine f_stepP rfl rfl rfl (o_len sl25 rfl) ?_
   refine f_stepP rfl rfl rfl (o_field fa24_0 rfl) ?_
   refine f_stepP rfl rfl rfl (o_load Tryz.isAgg3 rfl (rdA rfl)) ?_
   refine f_stepP rfl rfl rfl (o_eql rfl rfl) ?_
   refine f_stepP rfl rfl rfl (o_assign rfl) ?_
   refine f_done ?_
   refine f_tn (kh14 _ _ ?_)
   clear kh14
   refine f_ret ?_
   have e : rightB N L = decide ((L.length : Int) = N) := by rw [rightB, hrg, rgo_end (by omega)]; rfl
   exact f_fin1 [] Tryz.results84 rfl Sub.nil ⟨by rw [e], rfl⟩

set_option maxRecDepth 100000 in
set_option maxHeartbeats 4000000 in
theorem Count_spec (N : Int) (A B : Option Addr) (l : List Arc) (cap : Nat) (L : List Int) (cb : Nat) (w : World) (hr : Ro (Fr w []) w A (l.flatMap arcCs)) (hl : l.length ≤ 9223372036854775807) (hN : I64 N) (hok : ∀ x ∈ l, ArcOk x) (hL : Ro (Fr w []) w B (ints L)) (hm : L.length ≤ 9223372036854775807) :
    Meets Tryz.prog 81 [.agg #[.int .i64 N, .slice A l.length cap], .slice B L.length cb] w [] (fun u m => u = .tuple #[.int .i64 (lcount N l L).1, .int .i64 (lcount N l L).2] ∧ m = []) := by
 refine f_enter Tryz.func81 rfl Tryz.ntmps81 rfl Owns.nil ?_
 refine f_seq fun K1 kh1 => ?_
 refine f_region ?_
 refine f_step rfl rfl rfl (o_box rfl rfl fun b2 => ?_)
 refine f_stepP rfl rfl rfl (o_assign rfl) ?_
 refine f_stepP rfl rfl rfl (o_assign rfl) ?_
 refine f_done ?_
 refine f_tn (kh1 _ _ ?_)
 clear kh1
 refine f_seq fun K2 kh2 => ?_
 refine f_seq fun K3 kh3 => ?_
 refine f_region ?_
 refine f_stepP rfl rfl rfl (o_loadA (vs := [_, _]) Tryz.isAgg24 Tryz.sizeOf24 rfl rfl ⟨(rdA rfl), (rdA rfl), trivial⟩) ?_
 refine f_step rfl rfl rfl (o_call Tryz.call75 rfl (fun w_ hp_ => Check_spec N A l cap w_ (hr.up0 hp_) hl hN hok) ?_)
 rintro _ _ ⟨rfl, rfl⟩
 dsimp only [List.cons_append, List.nil_append]
 refine f_stepP rfl rfl rfl (o_move rfl) ?_
 refine f_stepP rfl rfl rfl (o_extract rfl rfl) ?_
 refine f_stepP rfl rfl rfl (o_extract rfl rfl) ?_
 refine f_stepP rfl rfl rfl (o_assign rfl) ?_
 refine f_stepP rfl rfl rfl (o_assign rfl) ?_
 refine f_done ?_
 refine f_tn (kh3 _ _ ?_)
 clear kh3
 refine f_seq fun K4 kh4 => ?_
 refine f_region ?_
 refine f_stepP rfl rfl rfl (o_move rfl) ?_
 refine f_stepP rfl rfl rfl (o_neq rfl rfl) ?_
 refine f_done ?_
 refine f_tn (kh4 _ _ ?_)
 clear kh4
 refine f_cond rfl (fun c17 => ?_) (fun c17 => ?_)
 ·
  refine f_seq fun K5 kh5 => ?_
  refine f_region ?_
  refine f_stepP rfl rfl rfl (o_move rfl) ?_
  refine f_stepP rfl rfl rfl (o_assign rfl) ?_
  refine f_stepP rfl rfl rfl (o_assign rfl) ?_
  refine f_done ?_
  refine f_tn (kh5 _ _ ?_)
  clear kh5
  refine f_ret ?_
  refine f_tr ?_
  have e : lcount N l L = (0, (gcheck N l).2) := if_pos c17
  exact f_fin2 [] Tryz.results81 rfl rfl Sub.nil ⟨by rw [e], rfl⟩
 ·
  have hg0 : (gcheck N l).2 = 0 := by simpa using c17
  obtain ⟨hn1, hn2, _, hgd⟩ := gcheck_zero hg0
  refine f_skip ?_
  refine f_tn (kh2 _ _ ?_)
  clear kh2
  refine f_seq fun K6 kh6 => ?_
  refine f_seq fun K7 kh7 => ?_
  refine f_region ?_
  refine f_stepP rfl rfl rfl (o_loadA (vs := [_, _]) Tryz.isAgg24 Tryz.sizeOf24 rfl rfl ⟨(rdA rfl), (rdA rfl), trivial⟩) ?_
  refine f_stepP rfl rfl rfl (o_move rfl) ?_
  refine f_step rfl rfl rfl (o_call Tryz.call84 rfl (fun w_ hp_ => right_spec N A B l.length cap L cb w_ (hL.up0 hp_) hm) ?_)
  rintro _ _ ⟨rfl, rfl⟩
  dsimp only [List.cons_append, List.nil_append]
  refine f_stepP rfl rfl rfl (o_not rfl) ?_
  refine f_done ?_
  refine f_tn (kh7 _ _ ?_)
  clear kh7
  refine f_condB rfl (fun c22 => ?_) (fun c22 => ?_)
  ·
   refine f_seq fun K8 kh8 => ?_
   refine f_region ?_
   refine f_stepP rfl rfl rfl (o_assign rfl) ?_
   refine f_stepP rfl rfl rfl (o_assign rfl) ?_
   refine f_done ?_
   refine f_tn (kh8 _ _ ?_)
   clear kh8
   refine f_ret ?_
   refine f_tr ?_
   have e : lcount N l L = (0, 80) := by rw [lcount, if_neg c17, if_pos (by simpa using c22)]
   exact f_fin2 [] Tryz.results81 rfl rfl Sub.nil ⟨by rw [e], rfl⟩
  ·
   have hrt : rightB N L = true := by simpa using c22
   obtain ⟨n, rfl⟩ : ∃ n : Nat, N = (n : Int) := ⟨N.toNat, by omega⟩
   have hg : (gcheck (n : Int) l).2 = 0 := hg0
   have hLn : L.length = n := by unfold rightB at hrt; simp at hrt; omega
   refine f_skip ?_
   refine f_tn (kh6 _ _ ?_)
   clear kh6
   refine f_seq fun K9 kh9 => ?_
   refine f_region ?_
   refine f_stepP rfl rfl rfl (o_assign rfl) ?_
   refine f_done ?_
   refine f_tn (kh9 _ _ ?_)
   clear kh9
   refine f_seq fun K10 kh10 => ?_
   refine f_seq fun K11 kh11 => ?_
   refine f_region ?_
   refine f_stepP rfl rfl rfl (o_loadA (vs := [_, _]) Tryz.isAgg24 Tryz.sizeOf24 rfl rfl ⟨(rdA rfl), (rdA rfl), trivial⟩) ?_
   refine f_step rfl rfl rfl (o_call Tryz.call85 rfl (fun w_ hp_ => pairs_spec n A l cap w_ (hr.up0 hp_) hg) ?_)
   rintro _ _ ⟨A', mp, rfl, rfl, cp, hop⟩
   have hpl := prs_len (n := n) (by omega) l
   dsimp only [List.cons_append, List.nil_append]
   refine f_stepP rfl rfl rfl (o_len sl106 rfl) ?_
   refine f_stepP rfl rfl rfl (o_move rfl) ?_
   refine f_done ?_
   refine f_tn (kh11 _ _ ?_)
   clear kh11
   refine f_block ?_
   refine f_loop (α := Nat) [1, 24, 25] (fun i => [(26, .int .i64 (i : Int)), (8, .int .i64 ((((prs n l).take i).filter (apart L)).length : Int))]) (fun i => [mp]) (fun i => i ≤ (prs n l).length) (fun i => (prs n l).length - i) (0) ?_ ?_ ?_ ?_
   · exact (by repeat (first | exact trivial | refine ⟨rfl, ?_⟩))
   · repeat (first | exact Sub.nil | refine Sub.pick ?_ | refine Sub.castO rfl ?_ | refine Sub.skip ?_)
   · exact Nat.zero_le _
   ·
    rintro i hil
    have hfl : (((prs n l).take i).filter (apart L)).length ≤ i := Nat.le_trans (List.length_filter_le _ _) (by rw [List.length_take]; omega)
    refine f_seq fun K12 kh12 => ?_
    refine f_region ?_
    refine f_stepP rfl rfl rfl (o_lss rfl rfl) ?_
    refine f_done ?_
    refine f_tn (kh12 _ _ ?_)
    clear kh12
    refine f_seq fun K13 kh13 => ?_
    refine f_cond rfl (fun c27 => ?_) (fun c27 => ?_)
    ·
     have hi : i < (prs n l).length := by omega
     obtain ⟨bp, spp, rfl, rfl⟩ := hop.at_ (by omega)
     have hrg := prs_rng (List.getElem_mem hi)
     obtain ⟨bb, ob, rfl, hSb, hcb⟩ := hL (fun e => by have := ints_length L; rw [e] at this; simp at this; omega)
     have hx1 : (prs n l)[i].1.toNat < L.length := by omega
     have hx2 : (prs n l)[i].2.toNat < L.length := by omega
     have hap : apart L (prs n l)[i] = decide (L[(prs n l)[i].1.toNat] ≠ L[(prs n l)[i].2.toNat]) := by unfold apart; rw [List.getD_eq_getElem?_getD, List.getD_eq_getElem?_getD, List.getElem?_eq_getElem hx1, List.getElem?_eq_getElem hx2]; rfl
     have hnx := filt_len_next (q := apart L) hi
     rw [hap] at hnx
     refine f_skip ?_
     refine f_tn (kh13 _ _ ?_)
     clear kh13
     refine f_seq fun K14 kh14 => ?_
     refine f_block ?_
     refine f_seq fun K15 kh15 => ?_
     refine f_region ?_
     refine f_stepP rfl rfl rfl (o_idx sl106 rfl rfl (i * 2) ⟨by omega, by omega, by first | omega | (simp; done) | (simp; omega)⟩) ?_
     refine f_stepP rfl rfl rfl (o_loadA (vs := prCs (prs n l)[i]) Tryz.isAgg109 Tryz.sizeOf109 rfl rfl (rdsOwn prCs_len hi)) ?_
     refine f_step rfl rfl rfl (o_alloc Tryz.zeroValue109 rfl fun b10 => ?_)
     refine f_step0 rfl rfl (o_storeA Tryz.sizeOf109 rfl rfl rfl rfl (by first | exact Nat.le_of_ble_eq_true rfl | (simp; done) | (simp; omega)) (prCs (prs n l)[i]) rfl ?_)
     refine f_done ?_
     refine f_tn (kh15 _ _ ?_)
     clear kh15
     refine f_seq fun K16 kh16 => ?_
     refine f_regionS rfl (by decide +kernel) ?_
     refine f_stillP rfl rfl rfl (o_move rfl) ?_
     refine f_stillP rfl rfl rfl (o_field fa109_0 rfl) ?_
     refine f_stillP rfl rfl rfl (o_load Tryz.isAgg3 rfl (rdA rfl)) ?_
     refine f_stillP rfl rfl rfl (o_idx sl25 rfl rfl (ob + (prs n l)[i].1.toNat) ⟨by omega, by omega, by first | omega | (simp; done) | (simp; omega)⟩) ?_
     refine f_stillP rfl rfl rfl (o_load Tryz.isAgg3 rfl (roOne (enc := (.int .i64 ·)) hSb hcb hx1)) ?_
     refine f_stillP rfl rfl rfl (o_move rfl) ?_
     refine f_stillP rfl rfl rfl (o_field fa109_1 rfl) ?_
     refine f_stillP rfl rfl rfl (o_load Tryz.isAgg3 rfl (rdA rfl)) ?_
     refine f_stillP rfl rfl rfl (o_idx sl25 rfl rfl (ob + (prs n l)[i].2.toNat) ⟨by omega, by omega, by first | omega | (simp; done) | (simp; omega)⟩) ?_
     refine f_stillP rfl rfl rfl (o_load Tryz.isAgg3 rfl (roOne (enc := (.int .i64 ·)) hSb hcb hx2)) ?_
     refine f_stillP rfl rfl rfl (o_neq rfl rfl) ?_
     refine f_stillD ?_
     refine f_tn (kh16 _ _ ?_)
     clear kh16
     refine f_cond rfl (fun c40 => ?_) (fun c40 => ?_)
     ·
      rw [if_pos (by simpa using c40)] at hnx
      refine f_region ?_
      refine f_stepP rfl rfl rfl (o_move rfl) ?_
      refine f_stepP rfl rfl rfl (o_add rfl rfl _ (Eq.trans (wrap_i64 (by omega)) (show _ = ((((prs n l).take (i + 1)).filter (apart L)).length : Int) by omega))) ?_
      refine f_stepP rfl rfl rfl (o_assign rfl) ?_
      refine f_done ?_
      refine f_bn ?_
      refine f_tn (kh14 _ _ ?_)
      clear kh14
      refine f_region ?_
      refine f_stepP rfl rfl rfl (o_add rfl rfl _ (wrap_i64 (by omega))) ?_
      refine f_stepP rfl rfl rfl (o_move rfl) ?_
      refine f_done ?_
      refine f_tn (f_again (i + 1) (by first | omega | (dsimp only; omega) | (simp; omega)) (by omega) ?_ ?_ ?_)
      · exact (by repeat (first | exact trivial | refine ⟨rfl, ?_⟩))
      · exact (by repeat (first | exact trivial | refine ⟨rfl, ?_⟩))
      · repeat (first | exact Sub.nil | refine Sub.pick ?_ | refine Sub.castO rfl ?_ | refine Sub.skip ?_)
     ·
      rw [if_neg (by simpa using c40), Nat.add_zero] at hnx
      refine f_reC 8 rfl (v := .int .i64 ((((prs n l).take (i + 1)).filter (apart L)).length : Int)) (by rw [hnx]; rfl) ?_
      refine f_skip ?_
      refine f_bn ?_
      refine f_tn (kh14 _ _ ?_)
      clear kh14
      refine f_region ?_
      refine f_stepP rfl rfl rfl (o_add rfl rfl _ (wrap_i64 (by omega))) ?_
      refine f_stepP rfl rfl rfl (o_move rfl) ?_
      refine f_done ?_
      refine f_tn (f_again (i + 1) (by first | omega | (dsimp only; omega) | (simp; omega)) (by omega) ?_ ?_ ?_)
      · exact (by repeat (first | exact trivial | refine ⟨rfl, ?_⟩))
      · exact (by repeat (first | exact trivial | refine ⟨rfl, ?_⟩))
      · repeat (first | exact Sub.nil | refine Sub.pick ?_ | refine Sub.castO rfl ?_ | refine Sub.skip ?_)
    ·
     refine f_exit ?_
     refine f_te ?_
     clear kh13
     refine f_te ?_
     refine f_be ?_
     refine f_tn (kh10 _ _ ?_)
     clear kh10
     refine f_seq fun K17 kh17 => ?_
     refine f_region ?_
     refine f_stepP rfl rfl rfl (o_move rfl) ?_
     refine f_stepP rfl rfl rfl (o_assign rfl) ?_
     refine f_stepP rfl rfl rfl (o_assign rfl) ?_
     refine f_done ?_
     refine f_tn (kh17 _ _ ?_)
     clear kh17
     refine f_ret ?_
     have e : lcount (n : Int) l L = ((cutN n l L : Int), 0) := by rw [lcount, if_neg (by rw [hg]; simp), if_neg (by rw [hrt]; simp)]; rfl
     obtain rfl : i = (prs n l).length := by omega
     rw [e]
     exact f_fin2 [] Tryz.results81 rfl rfl Sub.nil ⟨by rw [cutN, List.take_length], rfl⟩

set_option maxRecDepth 100000 in
set_option maxHeartbeats 4000000 in
theorem Max_spec (B : Option Addr) (L : List Int) (cb : Nat) (w : World) (hL : Ro (Fr w []) w B (ints L)) (h0 : 0 < L.length) (hm : L.length ≤ 9223372036854775807) :
    Meets Tryz.prog 83 [.slice B L.length cb] w [] (fun u m => u = .int .i64 (maxL L) ∧ m = []) := by
 obtain ⟨bb, ob, rfl, hSb, hcb⟩ := hL (fun e => by have := ints_length L; rw [e] at this; simp at this; omega)
 refine f_enter Tryz.func83 rfl Tryz.ntmps83 rfl Owns.nil ?_
 refine f_seq fun K1 kh1 => ?_
 refine f_region ?_
 refine f_stepP rfl rfl rfl (o_assign rfl) ?_
 refine f_done ?_
 refine f_tn (kh1 _ _ ?_)
 clear kh1
 refine f_seq fun K2 kh2 => ?_
 refine f_seq fun K3 kh3 => ?_
 refine f_region ?_
 refine f_stepP rfl rfl rfl (o_move rfl) ?_
 refine f_stepP rfl rfl rfl (o_len sl25 rfl) ?_
 refine f_stepP rfl rfl rfl (o_lss rfl rfl) ?_
 refine f_done ?_
 refine f_tn (kh3 _ _ ?_)
 clear kh3
 refine f_condN rfl (by omega) ?_
 refine f_skip ?_
 refine f_tn (kh2 _ _ ?_)
 clear kh2
 refine f_seq fun K4 kh4 => ?_
 refine f_region ?_
 refine f_stepP rfl rfl rfl (o_move rfl) ?_
 refine f_stepP rfl rfl rfl (o_idx sl25 rfl rfl (ob + 0) ⟨by omega, by omega, by first | omega | (simp; done) | (simp; omega)⟩) ?_
 refine f_stepP rfl rfl rfl (o_load Tryz.isAgg3 rfl (roOne (enc := (.int .i64 ·)) hSb hcb h0)) ?_
 refine f_stepP rfl rfl rfl (o_assign rfl) ?_
 refine f_done ?_
 refine f_tn (kh4 _ _ ?_)
 clear kh4
 refine f_seq fun K5 kh5 => ?_
 refine f_seq fun K6 kh6 => ?_
 refine f_reC 3 rfl (v := .int .i64 ((L.take 1).foldl max (L.headD 0))) (by rw [max_one h0]) ?_
 refine f_region ?_
 refine f_stepP rfl rfl rfl (o_assign rfl) ?_
 refine f_done ?_
 refine f_tn (kh6 _ _ ?_)
 clear kh6
 refine f_block ?_
 refine f_loopK (α := Nat) [0] (fun k => [(4, .int .i64 (k : Int)), (3, .int .i64 ((L.take k).foldl max (L.headD 0)))]) (fun k => 1 ≤ k ∧ k ≤ L.length) (fun k => L.length - k) (1) ?_ ?_ ?_
 · exact (by repeat (first | exact trivial | refine ⟨rfl, ?_⟩))
 · exact ⟨by omega, by omega⟩
 ·
  rintro k ⟨hk1, hkl⟩
  refine f_seq fun K7 kh7 => ?_
  refine f_seq fun K8 kh8 => ?_
  refine f_region ?_
  refine f_stepP rfl rfl rfl (o_move rfl) ?_
  refine f_stepP rfl rfl rfl (o_move rfl) ?_
  refine f_stepP rfl rfl rfl (o_len sl25 rfl) ?_
  refine f_stepP rfl rfl rfl (o_lss rfl rfl) ?_
  refine f_done ?_
  refine f_tn (kh8 _ _ ?_)
  clear kh8
  refine f_cond rfl (fun c15 => ?_) (fun c15 => ?_)
  ·
   have hk : k < L.length := by omega
   refine f_skip ?_
   refine f_tn (kh7 _ _ ?_)
   clear kh7
   refine f_seq fun K9 kh9 => ?_
   refine f_block ?_
   refine f_region ?_
   refine f_stepP rfl rfl rfl (o_move rfl) ?_
   refine f_stepP rfl rfl rfl (o_move rfl) ?_
   refine f_stepP rfl rfl rfl (o_move rfl) ?_
   refine f_stepP rfl rfl rfl (o_idx sl25 rfl rfl (ob + k) ⟨by omega, by omega, by first | omega | (simp; done) | (simp; omega)⟩) ?_
   refine f_stepP rfl rfl rfl (o_load Tryz.isAgg3 rfl (roOne (enc := (.int .i64 ·)) hSb hcb hk)) ?_
   refine f_stepP rfl rfl rfl (o_max rfl rfl) ?_
   refine f_stepP rfl rfl rfl (o_assign rfl) ?_
   refine f_done ?_
   refine f_bn ?_
   refine f_tn (kh9 _ _ ?_)
   clear kh9
   refine f_reC 3 rfl (v := .int .i64 ((L.take (k + 1)).foldl max (L.headD 0))) (by rw [max_next hk]) ?_
   refine f_region ?_
   refine f_stepP rfl rfl rfl (o_move rfl) ?_
   refine f_stepP rfl rfl rfl (o_add rfl rfl _ (wrap_i64 (by omega))) ?_
   refine f_stepP rfl rfl rfl (o_assign rfl) ?_
   refine f_done ?_
   refine f_tn (f_again (k + 1) (by first | omega | (dsimp only; omega) | (simp; omega)) ⟨by omega, by omega⟩ ?_ ?_ ?_)
   · exact (by repeat (first | exact trivial | refine ⟨rfl, ?_⟩))
   · exact (by repeat (first | exact trivial | refine ⟨rfl, ?_⟩))
   · repeat (first | exact Sub.nil | refine Sub.pick ?_ | refine Sub.castO rfl ?_ | refine Sub.skip ?_)
  ·
   refine f_exit ?_
   refine f_te ?_
   clear kh7
   refine f_te ?_
   refine f_be ?_
   refine f_tn (kh5 _ _ ?_)
   clear kh5
   refine f_seq fun K10 kh10 => ?_
   refine f_region ?_
   refine f_stepP rfl rfl rfl (o_move rfl) ?_
   refine f_stepP rfl rfl rfl (o_assign rfl) ?_
   refine f_done ?_
   refine f_tn (kh10 _ _ ?_)
   clear kh10
   refine f_ret ?_
   exact f_fin1 [] Tryz.results83 rfl Sub.nil ⟨by rw [List.take_of_length_le (by omega)]; rfl, rfl⟩

set_option maxRecDepth 100000 in
set_option maxHeartbeats 4000000 in
theorem sizes_spec (B : Option Addr) (L : List Int) (cb : Nat) (w : World) (hL : Ro (Fr w []) w B (ints L)) (h0 : 0 < L.length) (hm : L.length ≤ 1024) (hp : ∀ x ∈ L, 0 ≤ x ∧ x < 1024) :
    Meets Tryz.prog 87 [.slice B L.length cb] w [] (fun u own' => ∃ b, u = .slice (some ⟨b, 0, none⟩) (maxL L + 1).toNat (maxL L + 1).toNat ∧ own' = [[(b, blk (ints (sizesL L)) 3)]]) := by
 have hx0 : 0 ≤ maxL L := Int.le_trans (hp L[0] (List.getElem_mem h0)).1 (le_maxL (List.getElem_mem h0))
 have hx1 : maxL L ≤ 1023 := maxL_le h0 fun x hx => by have := hp x hx; omega
 obtain ⟨M, hM⟩ : ∃ M : Nat, maxL L + 1 = (M : Int) := ⟨(maxL L + 1).toNat, by omega⟩
 rw [sizesL, show (maxL L + 1).toNat = M by omega]
 refine f_enter Tryz.func87 rfl Tryz.ntmps87 rfl Owns.nil ?_
 refine f_seq fun K1 kh1 => ?_
 refine f_region ?_
 refine f_stepP rfl rfl rfl (o_assign rfl) ?_
 refine f_done ?_
 refine f_tn (kh1 _ _ ?_)
 clear kh1
 refine f_seq fun K2 kh2 => ?_
 refine f_region ?_
 refine f_stepP rfl rfl rfl (o_move rfl) ?_
 refine f_step rfl rfl rfl (o_call Tryz.call83 rfl (fun w_ hp_ => Max_spec B L cb w_ (hL.up0 hp_) h0 (by omega)) ?_)
 rintro _ _ ⟨rfl, rfl⟩
 dsimp only [List.cons_append, List.nil_append]
 refine f_stepP rfl rfl rfl (o_add rfl rfl _ (show IntKind.i64.wrap (maxL L + 1) = (M : Int) from by rw [wrap_i64 (by omega)]; omega)) ?_
 refine f_step rfl rfl rfl (o_make el25 rfl rfl M rfl (by omega) (by omega) (ints (szs M [])) (by rw [szs_nil]; simp [ints, List.flatten_replicate_singleton]) fun b9 => ?_)
 refine f_stepP rfl rfl rfl (o_assign rfl) ?_
 refine f_done ?_
 refine f_tn (kh2 _ _ ?_)
 clear kh2
 refine f_seq fun K3 kh3 => ?_
 refine f_seq fun K4 kh4 => ?_
 refine f_region ?_
 refine f_stepP rfl rfl rfl (o_move rfl) ?_
 refine f_stepP rfl rfl rfl (o_len sl25 rfl) ?_
 refine f_stepP rfl rfl rfl (o_move rfl) ?_
 refine f_done ?_
 refine f_tn (kh4 _ _ ?_)
 clear kh4
 refine f_block ?_
 refine f_loop (α := Nat) [3, 10, 11] (fun k => [(12, .int .i64 (k : Int))]) (fun k => [[(b9, blk (ints (szs M (L.take k))) 3)]]) (fun k => k ≤ L.length) (fun k => L.length - k) (0) ?_ ?_ ?_ ?_
 · exact (by repeat (first | exact trivial | refine ⟨rfl, ?_⟩))
 · repeat (first | exact Sub.nil | refine Sub.pick ?_ | refine Sub.castO rfl ?_ | refine Sub.skip ?_)
 · exact Nat.zero_le _
 ·
  rintro k hkl
  refine f_seq fun K5 kh5 => ?_
  refine f_region ?_
  refine f_stepP rfl rfl rfl (o_lss rfl rfl) ?_
  refine f_done ?_
  refine f_tn (kh5 _ _ ?_)
  clear kh5
  refine f_seq fun K6 kh6 => ?_
  refine f_cond rfl (fun c13 => ?_) (fun c13 => ?_)
  ·
   have hk : k < L.length := by omega
   obtain ⟨bb, ob, rfl, hSb, hcb⟩ := hL (fun e => by have := ints_length L; rw [e] at this; simp at this; omega)
   have hpk := hp L[k] (List.getElem_mem hk)
   have hmx := le_maxL (List.getElem_mem hk)
   obtain ⟨v, hv⟩ : ∃ v : Nat, L[k] = (v : Int) := ⟨L[k].toNat, by omega⟩
   have hvM : v < M := by omega
   have hcl := cnt_le (L.take k) v
   rw [List.length_take] at hcl
   refine f_skip ?_
   refine f_tn (kh6 _ _ ?_)
   clear kh6
   refine f_seq fun K7 kh7 => ?_
   refine f_block ?_
   refine f_seq fun K8 kh8 => ?_
   refine f_region ?_
   refine f_stepP rfl rfl rfl (o_idx sl25 rfl rfl (ob + k) ⟨by omega, by omega, by first | omega | (simp; done) | (simp; omega)⟩) ?_
   refine f_stepP rfl rfl rfl (o_load Tryz.isAgg3 rfl (show Rd _ _ _ _ _ (.int .i64 (v : Int)) by rw [← hv]; exact roOne (enc := (.int .i64 ·)) hSb hcb hk)) ?_
   refine f_stepP rfl rfl rfl (o_assign rfl) ?_
   refine f_done ?_
   refine f_tn (kh8 _ _ ?_)
   clear kh8
   refine f_region ?_
   refine f_stepP rfl rfl rfl (o_move rfl) ?_
   refine f_stepP rfl rfl rfl (o_move rfl) ?_
   refine f_stepP rfl rfl rfl (o_idx sl25 rfl rfl (v) ⟨by omega, by omega, by first | omega | (simp; done) | (simp; omega)⟩) ?_
   refine f_stepP rfl rfl rfl (o_load Tryz.isAgg3 rfl (rdA (v := .int .i64 (cnt (L.take k) v : Int)) (by rw [ints_get (by rw [szs_len]; exact hvM), szs_get hvM]))) ?_
   refine f_stepP rfl rfl rfl (o_add rfl rfl _ (wrap_i64 (by omega))) ?_
   refine f_stepP rfl rfl rfl (o_idx sl25 rfl rfl (v) ⟨by omega, by omega, by first | omega | (simp; done) | (simp; omega)⟩) ?_
   refine f_step0 rfl rfl (o_store Tryz.sizeOf3 rfl rfl rfl rfl (by rw [ints_length, szs_len]; omega) (ints (szs M (L.take (k + 1)))) (by rw [szs_next hk hv hvM]; simp [ints]) ?_)
   refine f_done ?_
   refine f_bn ?_
   refine f_tn (kh7 _ _ ?_)
   clear kh7
   refine f_region ?_
   refine f_stepP rfl rfl rfl (o_add rfl rfl _ (wrap_i64 (by omega))) ?_
   refine f_stepP rfl rfl rfl (o_move rfl) ?_
   refine f_done ?_
   refine f_tn (f_again (k + 1) (by first | omega | (dsimp only; omega) | (simp; omega)) (by omega) ?_ ?_ ?_)
   · exact (by repeat (first | exact trivial | refine ⟨rfl, ?_⟩))
   · exact (by repeat (first | exact trivial | refine ⟨rfl, ?_⟩))
   · repeat (first | exact Sub.nil | refine Sub.pick ?_ | refine Sub.castO rfl ?_ | refine Sub.skip ?_)
  ·
   refine f_exit ?_
   refine f_te ?_
   clear kh6
   refine f_te ?_
   refine f_be ?_
   refine f_tn (kh3 _ _ ?_)
   clear kh3
   refine f_seq fun K9 kh9 => ?_
   refine f_region ?_
   refine f_stepP rfl rfl rfl (o_move rfl) ?_
   refine f_stepP rfl rfl rfl (o_assign rfl) ?_
   refine f_done ?_
   refine f_tn (kh9 _ _ ?_)
   clear kh9
   refine f_ret ?_
   rw [List.take_of_length_le (by omega)]
   exact f_fin1 [[(b9, blk (ints (szs M L)) 3)]] Tryz.results87 rfl (by repeat (first | exact Sub.nil | refine Sub.pick ?_ | refine Sub.castO rfl ?_)) ⟨b9, rfl, rfl⟩

end Go.Proofs.YtkmkakpadgljeaaGreat

/- slices.Sort over numbers, by the shelf's contract, in the words of the small logic. -/

namespace Go.Proofs.YtkmkakpadgljeaaGreat.Fly
open Go Go.RowKit Go.Sort
set_option linter.unusedVariables false
set_option linter.unusedSimpArgs false
set_option linter.unusedSectionVars false

/-- Numbers, rising. -/
def sortI (l : List Int) : List Int := l.mergeSort fun x y => decide (x ≤ y)
theorem sortI_len (l : List Int) : (sortI l).length = l.length := List.length_mergeSort l
theorem sortI_perm (l : List Int) : (sortI l).Perm l := List.mergeSort_perm l _
theorem sortI_sorted (l : List Int) : (sortI l).Pairwise (· ≤ ·) := by
  have h := List.pairwise_mergeSort (le := fun x y : Int => decide (x ≤ y)) (fun a b c h1 h2 => by simp at *; omega) (fun a b => by simp; omega) l
  exact h.imp fun {a b} h => by simpa using h

theorem putCells_list (ts : List Int) (cs sp : List Value) (h : cs.length = ts.length) : (putCells (Value.int .i64) 0 ts.toArray (cs ++ sp).toArray).toList = ints ts ++ sp := by
  apply List.ext_getElem?
  intro j
  rw [Array.getElem?_toList]
  simp only [putCells, Array.getElem?_mapIdx, List.getElem?_toArray]
  by_cases hj : j < ts.length
  · rw [List.getElem?_append_left (by omega), List.getElem?_append_left (by rw [ints_length]; exact hj), ints_get hj]
    simp [hj, h]
  · rw [List.getElem?_append_right (by omega), List.getElem?_append_right (by rw [ints_length]; omega), ints_length, h]
    cases sp[j - ts.length]? <;> simp [hj]

theorem meets_sort {P : Program} {ρ : Go.Shelf.Ren} (L : Lays.n189 P ρ) {E : TypeId} (A : Option Addr) (cap : Nat) (l : List Int) (m : Seg) (w : World) (ho : Own E 1 (.slice A l.length cap) l.length (ints l) m) (hl : l.length < 4611686018427387904) (hw : Owns w [m]) :
    Meets P (ρ.f 189) [.slice A l.length cap] w [m] (fun u own' => u = .tuple #[] ∧ ∃ m', own' = [m'] ∧ Own E 1 (.slice A l.length cap) l.length (ints (sortI l)) m') := by
  have ho' := ho
  obtain ⟨h0, h | ⟨b, c, sp, e, rfl, h1, h2, h3⟩⟩ := ho'
  · obtain ⟨e, hl0, rfl⟩ := h
    obtain rfl : l = [] := List.eq_nil_of_length_eq_zero hl0
    refine Calls.mono (Any.slices_Sort_int_none L A cap w) ?_
    rintro _ _ ⟨rfl, rfl⟩
    exact ⟨_, [[]], rfl, Hp.start hw, rfl, [], rfl, by rw [show sortI [] = [] from by simp [sortI]]; exact ho⟩
  · cases e
    have hb : w.heap[b]? = some (blk (ints l ++ sp) E) := hw.there b _ (by simp)
    have hlt : b < w.heap.size := by
      rcases Nat.lt_or_ge b w.heap.size with h' | h'
      · exact h'
      · rw [Array.getElem?_eq_none h'] at hb; cases hb
    have hH : Holds (Value.int .i64) w b 0 l.toArray := by
      intro j hj
      have hj' : j < l.length := by simpa using hj
      refine ⟨?_, by simp [World.frozen?, hb]⟩
      have : (ints l ++ sp)[j]? = some (.int .i64 l[j]) := by rw [List.getElem?_append_left (by rw [ints_length]; exact hj'), ints_get hj']
      simp [World.cell?, hb, this, hj']
    have hc := Any.slices_Sort_int L b 0 cap l w hH hlt hl
    refine Calls.mono hc ?_
    rintro _ _ ⟨rfl, n, os, rfl⟩
    have hnew : (grow (putRow (Value.int .i64) (Sort.ahead w n) b 0 (sortI l).toArray) os).heap[b]? = some (blk (ints (sortI l) ++ sp) E) := by
      rw [heap_grow_old _ _ (by simpa using hlt)]
      have : (putCells (Value.int .i64) 0 (sortI l).toArray (ints l ++ sp).toArray) = (ints (sortI l) ++ sp).toArray := by
        rw [← Array.toList_inj, putCells_list _ _ _ (by rw [ints_length, sortI_len])]
      simp [putRow, mapBlock, Sort.ahead, Array.getElem?_modify, hb, onCells, this]
    have hoth : ∀ k, k < w.heap.size → k ≠ b → (grow (putRow (Value.int .i64) (Sort.ahead w n) b 0 (sortI l).toArray) os).heap[k]? = w.heap[k]? := fun k hk hne => by
      rw [heap_grow_old _ _ (by simpa using hk)]
      have : b ≠ k := fun e => hne e.symm
      simp [putRow, mapBlock, Sort.ahead, Array.getElem?_modify, this]
    refine ⟨.tuple #[], [[(b, blk (ints (sortI l) ++ sp) E)]], rfl, ?_, rfl, _, rfl, by rw [ints_length] at h0; exact ⟨by rw [ints_length, sortI_len]; omega, .inr ⟨b, cap, sp, rfl, rfl, h1, h2, h3⟩⟩⟩
    refine ⟨rfl, rfl, rfl, by simp [grow], by simp [grow, putRow, mapBlock, Sort.ahead], fun k hk => hk.1, fun k hk => hoth k hk.1 fun e => hk.2 (by subst e; simp), fun k o hm => ?_, fun k o hm hk => hk.2 (by simp at hm; obtain ⟨rfl, _⟩ := hm; simp), by simp⟩
    simp only [List.flatten_cons, List.flatten_nil, List.append_nil, List.mem_singleton, Prod.mk.injEq] at hm
    obtain ⟨rfl, rfl⟩ := hm
    exact hnew
end Go.Proofs.YtkmkakpadgljeaaGreat.Fly

/- Neighbours, told in two ways. -/

namespace Go.Proofs.YtkmkakpadgljeaaGreat
open Go Fly
set_option linter.unusedVariables false
set_option linter.unusedSectionVars false
set_option linter.unusedSimpArgs false

/-- What an arc says of the neighbours of v. -/
def nbr (v : Int) (x : Arc) : List Int := if x.src = x.dst then [] else if x.src = v then [x.dst] else if x.dst = v then [x.src] else []
def nbrs (v : Int) (l : List Arc) : List Int := cpt (sortI (l.flatMap (nbr v)))
/-- Whether an arc says that u is a neighbour of v. -/
def nbB (v u : Nat) (x : Arc) : Bool := (decide (x.src.toNat = v) && decide (x.dst.toNat = u)) || (decide (x.dst.toNat = v) && decide (x.src.toNat = u))
def trues (sd : List Bool) : List Int := idxs id sd
theorem nbr_next {v : Int} {l : List Arc} {i : Nat} (hi : i < l.length) : (l.take (i + 1)).flatMap (nbr v) = (l.take i).flatMap (nbr v) ++ nbr v l[i] := by
  rw [List.take_succ_eq_append_getElem hi, List.flatMap_append]; simp
theorem nbr_len (v : Int) (l : List Arc) : (l.flatMap (nbr v)).length ≤ l.length := by
  induction l with
  | nil => simp
  | cons x r ih =>
    rw [List.flatMap_cons, List.length_append, List.length_cons]
    have : (nbr v x).length ≤ 1 := by
      unfold nbr
      split
      · simp
      · split
        · simp
        · split <;> simp
    omega
theorem nbrs_rising (v : Int) (l : List Arc) : (nbrs v l).Pairwise (· < ·) := cpt_int (sortI_sorted _)
theorem nbrs_mem {v : Int} {l : List Arc} {u : Int} : u ∈ nbrs v l ↔ ∃ x ∈ l, u ∈ nbr v x := by
  unfold nbrs
  rw [cpt_mem, (sortI_perm _).mem_iff, List.mem_flatMap]
theorem idxs_rising {α : Type} (p : α → Bool) (l : List α) : ∀ k, k ≤ l.length → (idxs p (l.take k)).Pairwise (· < ·) ∧ ∀ x ∈ idxs p (l.take k), x < (k : Int)
  | 0, _ => by simp [idxs]
  | k + 1, h => by
    obtain ⟨h1, h2⟩ := idxs_rising p l k (by omega)
    rw [idxs_succ (by omega)]
    split
    · refine ⟨List.pairwise_append.2 ⟨h1, by simp, fun a ha b hb => by simp at hb; subst hb; exact h2 a ha⟩, fun x hx => ?_⟩
      rcases List.mem_append.1 hx with hx | hx
      · have := h2 x hx; omega
      · simp at hx; omega
    · simp only [List.append_nil]
      exact ⟨h1, fun x hx => by have := h2 x hx; omega⟩
theorem idxs_in {α : Type} {p : α → Bool} {l : List α} : ∀ k, k ≤ l.length → ∀ x : Int, x ∈ idxs p (l.take k) ↔ ∃ i, ∃ h : i < l.length, i < k ∧ x = (i : Int) ∧ p l[i] = true
  | 0, _, x => by simp [idxs]
  | k + 1, hk, x => by
    rw [idxs_succ (by omega), List.mem_append, idxs_in k (by omega) x]
    constructor
    · rintro (⟨i, h, h1, h2, h3⟩ | hx)
      · exact ⟨i, h, by omega, h2, h3⟩
      · split at hx
        · rename_i hp; simp at hx; exact ⟨k, by omega, by omega, hx, hp⟩
        · simp at hx
    · rintro ⟨i, h, h1, h2, h3⟩
      by_cases e : i = k
      · subst e; right; rw [if_pos h3]; simp [h2]
      · exact .inl ⟨i, h, by omega, h2, h3⟩
theorem trues_rising (sd : List Bool) : (trues sd).Pairwise (· < ·) := by
  have := (idxs_rising id sd sd.length (Nat.le_refl _)).1
  rwa [List.take_length] at this
theorem trues_mem {sd : List Bool} {x : Int} : x ∈ trues sd ↔ ∃ i, i < sd.length ∧ x = (i : Int) ∧ sd.getD i false = true := by
  have := idxs_in (p := id) (l := sd) sd.length (Nat.le_refl _) x
  rw [List.take_length] at this
  rw [trues, this]
  constructor
  · rintro ⟨i, h, _, h2, h3⟩; exact ⟨i, h, h2, by simpa [List.getD_eq_getElem?_getD, h] using h3⟩
  · rintro ⟨i, h, h2, h3⟩; exact ⟨i, h, h, h2, by simpa [List.getD_eq_getElem?_getD, h] using h3⟩
/-- Both ways tell the same. -/
theorem nbrs_trues {n v : Nat} {l : List Arc} {sd : List Bool} (hv : v < n) (hgood : ∀ k (hk : k < l.length), 0 ≤ l[k].src ∧ l[k].src < (n : Int) ∧ 0 ≤ l[k].dst ∧ l[k].dst < (n : Int)) (hl : sd.length = n) (hs : ∀ u, u < n → sd.getD u false = (decide (u ≠ v) && l.any (nbB v u))) : nbrs (v : Int) l = trues sd := by
  refine rising_int (nbrs_rising _ _) (trues_rising _) fun u => ?_
  rw [nbrs_mem, trues_mem]
  constructor
  · rintro ⟨x, hx, hu⟩
    obtain ⟨k, hk, rfl⟩ := List.mem_iff_getElem.1 hx
    have hg := hgood k hk
    unfold nbr at hu
    split at hu
    · simp at hu
    · rename_i h1
      split at hu
      · rename_i h2
        simp at hu
        refine ⟨u.toNat, by omega, by omega, ?_⟩
        rw [hs _ (by omega), Bool.and_eq_true, decide_eq_true_eq, List.any_eq_true]
        exact ⟨by omega, l[k], hx, by unfold nbB; simp; left; omega⟩
      · split at hu
        · rename_i h2 h3
          simp at hu
          refine ⟨u.toNat, by omega, by omega, ?_⟩
          rw [hs _ (by omega), Bool.and_eq_true, decide_eq_true_eq, List.any_eq_true]
          exact ⟨by omega, l[k], hx, by unfold nbB; simp; right; omega⟩
        · simp at hu
  · rintro ⟨i, hi, rfl, h⟩
    rw [hs i (by omega), Bool.and_eq_true, decide_eq_true_eq, List.any_eq_true] at h
    obtain ⟨hne, x, hx, hb⟩ := h
    refine ⟨x, hx, ?_⟩
    obtain ⟨k, hk, rfl⟩ := List.mem_iff_getElem.1 hx
    have hg := hgood k hk
    unfold nbB at hb
    simp at hb
    unfold nbr
    rcases hb with ⟨h1, h2⟩ | ⟨h1, h2⟩
    · rw [if_neg (by omega), if_pos (by omega)]; simp; omega
    · rw [if_neg (by omega), if_neg (by omega), if_pos (by omega)]; simp; omega
end Go.Proofs.YtkmkakpadgljeaaGreat

/- Moves of a vertex to another label. -/

namespace Go.Proofs.YtkmkakpadgljeaaGreat
open Go Fly
set_option linter.unusedVariables false
set_option linter.unusedSimpArgs false
set_option linter.unusedSectionVars false

theorem Sub.of_perm {m : Seg} {out : List Seg} (h : m.Perm out.flatten) : Fly.Sub [m] out := ⟨[], by simpa using h⟩
theorem Sub.flat {segs out : List Seg} (h : Fly.Sub segs out) : Fly.Sub segs [out.flatten] := by
  obtain ⟨rest, h⟩ := h; exact ⟨rest, by simpa using h⟩
theorem Sub.shut {m : Seg} {tl out : List Seg} (h : m.Perm out.flatten) : Fly.Sub (out ++ tl) (m :: tl) := ⟨[], by simp only [List.flatten_cons, List.flatten_append, List.append_nil]; exact h.symm.append_right _⟩
theorem Sub.opened {m : Seg} {tl out : List Seg} (h : m.Perm out.flatten) : Fly.Sub (m :: tl) (out ++ tl) := ⟨[], by simp only [List.flatten_cons, List.flatten_append, List.append_nil]; exact h.append_right _⟩
/-- A vertex's label. -/
def lab (L : List Int) (u : Int) : Int := L.getD u.toNat 0
theorem lab_at {L : List Int} {u : Int} (h : u.toNat < L.length) : lab L u = L[u.toNat] := by simp [lab, h]
/-- How many of some vertices bear a label. -/
def ncnt (L R : List Int) (j : Int) : Nat := (R.filter fun u => decide (lab L u = j)).length
theorem ncnt_next {L R : List Int} {k : Nat} (hk : k < R.length) (j : Int) : ncnt L (R.take (k + 1)) j = ncnt L (R.take k) j + (if lab L R[k] = j then 1 else 0) := by
  unfold ncnt; rw [filt_len_next hk]; simp
theorem ncnt_le (L R : List Int) (j : Int) : ncnt L R j ≤ R.length := List.length_filter_le _ _
/-- What a map of counts holds. -/
def Cnts (L R : List Int) (ents : List (Int × Value × Nat)) : Prop := ∀ j : Int, (mget ents j).getD (.int .i64 0) = .int .i64 (ncnt L R j : Int)
theorem Cnts.nil (L : List Int) : Cnts L [] [] := fun j => rfl
theorem Cnts.next {L R : List Int} {ents : List (Int × Value × Nat)} {k c : Nat} (h : Cnts L (R.take k) ents) (hk : k < R.length) : Cnts L (R.take (k + 1)) (mput ents (lab L R[k]) (.int .i64 ((ncnt L (R.take k) (lab L R[k]) : Int) + 1)) c) := fun j => by
  rw [mget_put, ncnt_next hk]
  by_cases e : j = lab L R[k]
  · subst e; rw [if_pos rfl, if_pos rfl]; rfl
  · rw [if_neg e, if_neg (fun h => e h.symm)]; exact h j
/-- What a move gains. -/
def gn (L R : List Int) (own j : Int) : Int := (ncnt L R j : Int) - ncnt L R own
abbrev Mv := Int × Int × Int
def mvUp (L S R : List Int) (bd : Int) (v : Nat) (b : Mv) (j : Nat) : Mv :=
  if (j : Int) ≠ lab L v ∧ 0 < ncnt L R j ∧ S.getD j 0 < bd ∧ b.2.2 < gn L R (lab L v) j then ((v : Int), (j : Int), gn L R (lab L v) j) else b
def mvRow (L S R : List Int) (bd : Int) (v j : Nat) (b : Mv) : Mv := (List.range j).foldl (mvUp L S R bd v) b
theorem mvRow_zero (L S R : List Int) (bd : Int) (v : Nat) (b : Mv) : mvRow L S R bd v 0 b = b := rfl
theorem mvRow_next (L S R : List Int) (bd : Int) (v j : Nat) (b : Mv) : mvRow L S R bd v (j + 1) b = mvUp L S R bd v (mvRow L S R bd v j b) j := by
  unfold mvRow; rw [List.range_succ, List.foldl_append]; rfl
/-- The first move of all that gain most, over the first k vertices. -/
def mvTo (L S : List Int) (rows : Nat → List Int) (bd : Int) (k : Nat) : Mv := (List.range k).foldl (fun b v => mvRow L S (rows v) bd v S.length b) (0, 0, 0)
theorem mvTo_next (L S : List Int) (rows : Nat → List Int) (bd : Int) (k : Nat) : mvTo L S rows bd (k + 1) = mvRow L S (rows k) bd k S.length (mvTo L S rows bd k) := by
  unfold mvTo; rw [List.range_succ, List.foldl_append]; rfl
def mvCs (m : Mv) : List Value := [.int .i64 m.1, .int .i64 m.2.1, .int .i64 m.2.2]

/-- Labels in the order in which they come. -/
def sns (L : List Int) : List Int := L.foldl (fun s l => if l ∈ s then s else s ++ [l]) []
theorem sns_next {L : List Int} {k : Nat} (hk : k < L.length) : sns (L.take (k + 1)) = if L[k] ∈ sns (L.take k) then sns (L.take k) else sns (L.take k) ++ [L[k]] := by
  unfold sns; rw [List.take_succ_eq_append_getElem hk, List.foldl_append]; rfl
theorem sns_pre (b : List Int) : ∀ (s : List Int), ∃ r, b.foldl (fun s l => if l ∈ s then s else s ++ [l]) s = s ++ r := by
  induction b with
  | nil => intro s; exact ⟨[], by simp⟩
  | cons x b ih =>
    intro s
    simp only [List.foldl_cons]
    by_cases h : x ∈ s
    · rw [if_pos h]; exact ih s
    · rw [if_neg h]
      obtain ⟨r, hr⟩ := ih (s ++ [x])
      exact ⟨x :: r, by rw [hr]; simp⟩
theorem sns_take (L : List Int) (k : Nat) : ∃ r, sns L = sns (L.take k) ++ r := by
  obtain ⟨r, hr⟩ := sns_pre (L.drop k) (sns (L.take k))
  refine ⟨r, ?_⟩
  rw [← hr]
  unfold sns
  rw [← List.foldl_append, List.take_append_drop]
theorem sns_mem {L : List Int} : ∀ {k : Nat}, k ≤ L.length → ∀ x ∈ L.take k, x ∈ sns (L.take k)
  | 0, _, x, hx => by simp at hx
  | k + 1, h, x, hx => by
    have hk : k < L.length := by omega
    rw [List.take_succ_eq_append_getElem hk] at hx
    rw [sns_next hk]
    rcases List.mem_append.1 hx with hx | hx
    · have := sns_mem (k := k) (by omega) x hx
      split
      · exact this
      · exact List.mem_append_left _ this
    · simp only [List.mem_singleton] at hx
      subst hx
      split
      · assumption
      · simp
theorem sns_len {L : List Int} : ∀ {k : Nat}, k ≤ L.length → (sns (L.take k)).length ≤ k
  | 0, _ => by simp [sns]
  | k + 1, h => by
    have := sns_len (L := L) (k := k) (by omega)
    rw [sns_next (by omega)]
    split
    · omega
    · simp; omega
/-- Labels made tidy. -/
def tdy (L : List Int) : List Int := L.map fun l => (((sns L).idxOf l : Nat) : Int)
theorem tdy_len (L : List Int) : (tdy L).length = L.length := by simp [tdy]
/-- Labels of which the first k are tidy. -/
def tdyTo (L : List Int) (k : Nat) : List Int := (tdy L).take k ++ L.drop k
theorem tdyTo_len {L : List Int} {k : Nat} : (tdyTo L k).length = L.length := by unfold tdyTo; rw [List.length_append, List.length_take, List.length_drop, tdy_len]; omega
theorem tdyTo_zero (L : List Int) : tdyTo L 0 = L := by simp [tdyTo]
theorem tdyTo_all (L : List Int) : tdyTo L L.length = tdy L := by
  unfold tdyTo; rw [List.drop_length, List.append_nil, ← tdy_len L, List.take_length]
theorem tdyTo_get {L : List Int} {k : Nat} (hk : k < L.length) : (tdyTo L k)[k]'(by rw [tdyTo_len]; exact hk) = L[k] := by
  unfold tdyTo
  rw [List.getElem_append_right (by rw [List.length_take, tdy_len]; omega)]
  simp [List.length_take, tdy_len, Nat.min_eq_left (Nat.le_of_lt hk)]
theorem tdyTo_next {L : List Int} {k : Nat} (hk : k < L.length) {j : Nat} (hj : j = (sns (L.take (k + 1))).idxOf L[k]) : tdyTo L (k + 1) = (tdyTo L k).set k (j : Int) := by
  have hm : L[k] ∈ sns (L.take (k + 1)) := sns_mem (by omega) _ (by rw [List.take_succ_eq_append_getElem hk]; exact List.mem_append_right _ (List.mem_singleton.2 rfl))
  obtain ⟨r, hr⟩ := sns_take L (k + 1)
  have hi : (sns L).idxOf L[k] = j := by rw [hr, List.idxOf_append, if_pos hm, hj]
  unfold tdyTo
  have hkt : k < (tdy L).length := by rw [tdy_len]; exact hk
  rw [List.take_succ_eq_append_getElem hkt]
  have e : (tdy L)[k] = (j : Int) := by simp [tdy, hi]
  rw [e]
  rw [List.set_append_right _ _ (by rw [List.length_take]; omega)]
  simp only [List.length_take, Nat.min_eq_left (Nat.le_of_lt hkt), Nat.sub_self, List.append_assoc, List.singleton_append]
  rw [show L.drop k = L[k] :: L.drop (k + 1) from (List.getElem_cons_drop hk).symm]; rfl
theorem tdy_rng {L : List Int} : ∀ x ∈ tdy L, 0 ≤ x ∧ x < ((sns L).length : Int) := fun x hx => by
  obtain ⟨l, hl, rfl⟩ := List.mem_map.1 hx
  have : l ∈ sns L := by have := sns_mem (L := L) (k := L.length) (Nat.le_refl _) l (by simpa using hl); simpa using this
  have := List.idxOf_lt_length_of_mem this
  omega
/-- What the map of labels holds. -/
def Nums (s : List Int) (ents : List (Int × Value × Nat)) : Prop := ents.length = s.length ∧ ∀ j : Int, mget ents j = if j ∈ s then some (.int .i64 ((s.idxOf j : Nat) : Int)) else none
theorem Nums.nil : Nums [] [] := ⟨rfl, fun j => rfl⟩
theorem mput_len_new {ents : List (Int × Value × Nat)} {x : Int} (h : mget ents x = none) (v : Value) (c : Nat) : (mput ents x v c).length = ents.length + 1 := by
  induction ents with
  | nil => rfl
  | cons e r ih =>
    simp only [mget] at h
    by_cases hx : x = e.1
    · rw [if_pos hx] at h; cases h
    · rw [if_neg hx] at h
      simp only [mput, if_neg hx, List.length_cons, ih h]
theorem Nums.add {s : List Int} {ents : List (Int × Value × Nat)} (h : Nums s ents) {x : Int} (hx : x ∉ s) (c : Nat) : Nums (s ++ [x]) (mput ents x (.int .i64 (s.length : Int)) c) := by
  refine ⟨?_, fun j => ?_⟩
  · rw [mput_len_new (by rw [h.2, if_neg hx])]; simp [h.1]
  · rw [mget_put]
    by_cases e : j = x
    · subst e
      rw [if_pos rfl, if_pos (by simp), List.idxOf_append, if_neg hx]
      simp
    · rw [if_neg e, h.2]
      by_cases hj : j ∈ s
      · rw [if_pos hj, if_pos (by simp [hj]), List.idxOf_append, if_pos hj]
      · rw [if_neg hj, if_neg (by simp [hj, e])]
end Go.Proofs.YtkmkakpadgljeaaGreat
