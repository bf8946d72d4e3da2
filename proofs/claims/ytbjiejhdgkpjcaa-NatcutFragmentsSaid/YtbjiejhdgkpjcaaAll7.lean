import Derived.Test.YtbjiejhdgkpjcaaAll4
import Derived.Test.YtbjiejhdgkpjcaaAll5
import Derived.Test.YtbjiejhdgkpjcaaAll6
import Derived.Test.YtbjiejhdgkpjcaaFlyT
import Derived.Test.YtbjiejhdgkpjcaaAll2
import Derived.Test.YtbjiejhdgkpjcaaFlyMap

/- natcut.order, slices.SortFunc, Compact and Clip over pairs, natcut.pairs. -/
namespace Go.Proofs.Ytbjiejhdgkpjcaa
open Go Go.RowKit Fly
set_option linter.unusedVariables false
set_option linter.unusedSimpArgs false


set_option linter.unusedSectionVars false
section
variable {α : Type} [DecidableEq α]
theorem cptk_put {l d : List α} {i j : Nat} (hj : j < l.length) (hij : i < j) (hd : d.length = l.length) (h0 : d.take i = cpt (l.take j)) (hdr : d.drop (j - 1) = l.drop (j - 1)) (hne : l[j] ≠ l[j - 1]'(by omega)) :
    (d.set i l[j]).take (i + 1) = cpt (l.take (j + 1)) ∧ (d.set i l[j]).drop j = l.drop j := by
  refine ⟨?_, ?_⟩
  · rw [cpt_next (by omega) hj, if_neg (fun e => hne e.symm), ← h0, List.take_succ_eq_append_getElem (show i < (d.set i l[j]).length by simp; omega), List.getElem_set_self, List.take_set_of_le (Nat.le_refl _)]
  · rw [List.drop_set_of_lt hij]
    have := congrArg (List.drop 1) hdr
    rw [List.drop_drop, List.drop_drop, show j - 1 + 1 = j by omega] at this
    exact this
theorem cptk_pass {l d : List α} {i j : Nat} (hj : j < l.length) (hj0 : 0 < j) (h0 : d.take i = cpt (l.take j)) (hdr : d.drop (j - 1) = l.drop (j - 1)) (he : l[j] = l[j - 1]'(by omega)) : d.take i = cpt (l.take (j + 1)) ∧ d.drop j = l.drop j := by
  refine ⟨by rw [cpt_next hj0 hj, if_pos he.symm]; exact h0, ?_⟩
  have := congrArg (List.drop 1) hdr
  rw [List.drop_drop, List.drop_drop, show j - 1 + 1 = j by omega] at this
  exact this
theorem dropk_get {l d : List α} {i j : Nat} (hd : d.length = l.length) (h : d.drop i = l.drop i) (hij : i ≤ j) (hj : j < l.length) : d[j]'(by omega) = l[j] := by
  have := congrArg (fun x => x[j - i]?) h
  simp only [List.getElem?_drop, show i + (j - i) = j by omega] at this
  rw [List.getElem?_eq_getElem (by omega), List.getElem?_eq_getElem hj] at this
  exact Option.some.inj this
theorem cptk_zero {enc : α → List Value} {sz : Nat} (hs : ∀ x, (enc x).length = sz) {d : List α} {i : Nat} (hi : i ≤ d.length) (sp ys : List Value) (hy : ys.length = (d.length - i) * sz) : setMany (d.flatMap enc ++ sp) (i * sz) ys = (d.take i).flatMap enc ++ (ys ++ sp) := by
  have e : d.flatMap enc ++ sp = (d.take i).flatMap enc ++ ((d.drop i).flatMap enc ++ sp) := by rw [← List.append_assoc, ← List.flatMap_append, List.take_append_drop]
  rw [e]
  exact setMany_append ys _ _ _ _ (by rw [flat_length enc hs, List.length_take, Nat.min_eq_left hi]) (by rw [flat_length enc hs, hy, List.length_drop])
end

set_option maxRecDepth 100000 in
theorem eqPr (x y : Pr) (w : World) : (Op.equalIn 10000 47 (.agg (prCs x).toArray) (.agg (prCs y).toArray)).run Try.prog w = .ok (decide (x = y)) w := by
  have hf : Try.prog.fieldsOf 47 = (match Try.prog.underlying 47 with | some (.struct fs) => fs | _ => #[]) := rfl
  rw [Try.underlying47] at hf
  rw [run_equalIn_struct (P := Try.prog) w 9999 47 _ _ (by rw [hf]; exact Try.underlying47) Try.stoodInHeld47, hf]
  obtain ⟨a, b⟩ := x
  obtain ⟨a', b'⟩ := y
  have ii : ∀ (k k' : IntKind) (p q : Int) (T : TypeId) (v : World), Try.prog.underlying T = some (.int k') → (Op.equalIn 9999 T (.int k p) (.int k q)).run Try.prog v = .ok (p == q) v := fun k k' p q T v h => run_equalIn_int v 9998 T k k' p q h
  simp only [Op.eqFields, prCs, part, Sem.run_bind, Sem.run_ite, Try.isAgg3, Result.andThen_ok, Sem.run_pure, ne_eq, Bool.false_eq_true, if_false]
  simp [ii _ _ _ _ _ _ Try.underlying3]
  by_cases h1 : a = a' <;> by_cases h2 : b = b' <;> simp [h1, h2]
theorem raw_next {l : List Arc} {i : Nat} (hi : i < l.length) : prRaw (l.take (i + 1)) = prRaw (l.take i) ++ (if l[i].src ≠ l[i].dst then [prOf l[i]] else []) := by
  unfold prRaw
  rw [List.take_succ_eq_append_getElem hi, List.filter_append, List.map_append]
  congr 1
  by_cases h : l[i].src = l[i].dst <;> simp [h]
theorem raw_len (l : List Arc) : (prRaw l).length ≤ l.length := by
  unfold prRaw; rw [List.length_map]; exact List.length_filter_le _ _
theorem raw_good {n : Nat} {l : List Arc} (hg : ∀ k (hk : k < l.length), 0 ≤ l[k].src ∧ l[k].src < (n : Int) ∧ 0 ≤ l[k].dst ∧ l[k].dst < (n : Int)) : ∀ a ∈ l, (0 ≤ a.src ∧ a.src < n) ∧ 0 ≤ a.dst ∧ a.dst < n := fun a ha => by
  obtain ⟨k, hk, rfl⟩ := List.mem_iff_getElem.1 ha
  have := hg k hk
  omega
theorem raw_ok {n : Nat} {l : List Arc} (hn : n ≤ 1024) (hg : ∀ k (hk : k < l.length), 0 ≤ l[k].src ∧ l[k].src < (n : Int) ∧ 0 ≤ l[k].dst ∧ l[k].dst < (n : Int)) : ∀ p ∈ prRaw l, POk p := fun p hp => by
  obtain ⟨a, ha, _, rfl⟩ := mem_prRaw.1 hp
  have := raw_good hg a ha
  unfold POk prOf
  simp only
  omega
theorem flat_toP (l : List F20) : l.flatMap (fun x => prCs (toP x)) = (l.map toP).flatMap prCs := by rw [List.flatMap_map]

set_option maxRecDepth 100000 in
set_option maxHeartbeats 4000000 in
theorem order_spec (x y : Pr) (w : World) (hx : POk x) (hy : POk y) : Meets Try.prog 46 [.agg (prCs x).toArray, .agg (prCs y).toArray] w [] (fun u _ => u = .int .i64 (ordP x y)) := by
 unfold POk at hx hy
 refine f_enter Try.func46 rfl Try.ntmps46 rfl Owns.nil ?_
 refine f_seq fun K1 kh1 => ?_
 refine f_region ?_
 refine f_step rfl rfl rfl (o_box rfl rfl fun b2 => ?_)
 refine f_step rfl rfl rfl (o_box rfl rfl fun b3 => ?_)
 refine f_stepP rfl rfl rfl (o_assign rfl) ?_
 refine f_done ?_
 refine f_tn (kh1 _ _ ?_)
 clear kh1
 refine f_seq fun K2 kh2 => ?_
 refine f_seq fun K3 kh3 => ?_
 refine f_region ?_
 refine f_stepP rfl rfl rfl (o_field fa47_0 rfl) ?_
 refine f_stepP rfl rfl rfl (o_load Try.isAgg3 rfl (rdA rfl)) ?_
 refine f_stepP rfl rfl rfl (o_field fa47_0 rfl) ?_
 refine f_stepP rfl rfl rfl (o_load Try.isAgg3 rfl (rdA rfl)) ?_
 refine f_stepP rfl rfl rfl (o_neq rfl rfl) ?_
 refine f_done ?_
 refine f_tn (kh3 _ _ ?_)
 clear kh3
 refine f_cond rfl (fun c9 => ?_) (fun c9 => ?_)
 ·
  refine f_seq fun K4 kh4 => ?_
  refine f_region ?_
  refine f_stepP rfl rfl rfl (o_field fa47_0 rfl) ?_
  refine f_stepP rfl rfl rfl (o_load Try.isAgg3 rfl (rdA rfl)) ?_
  refine f_stepP rfl rfl rfl (o_field fa47_0 rfl) ?_
  refine f_stepP rfl rfl rfl (o_load Try.isAgg3 rfl (rdA rfl)) ?_
  refine f_stepP rfl rfl rfl (o_sub rfl rfl _ (wrap_i64 (by omega))) ?_
  refine f_stepP rfl rfl rfl (o_assign rfl) ?_
  refine f_done ?_
  refine f_tn (kh4 _ _ ?_)
  clear kh4
  refine f_ret ?_
  refine f_tr ?_
  exact f_fin1 [] Try.results46 rfl Sub.nil (by rw [ordP, if_pos c9])
 ·
  refine f_skip ?_
  refine f_tn (kh2 _ _ ?_)
  clear kh2
  refine f_seq fun K5 kh5 => ?_
  refine f_region ?_
  refine f_stepP rfl rfl rfl (o_field fa47_1 rfl) ?_
  refine f_stepP rfl rfl rfl (o_load Try.isAgg3 rfl (rdA rfl)) ?_
  refine f_stepP rfl rfl rfl (o_field fa47_1 rfl) ?_
  refine f_stepP rfl rfl rfl (o_load Try.isAgg3 rfl (rdA rfl)) ?_
  refine f_stepP rfl rfl rfl (o_sub rfl rfl _ (wrap_i64 (by omega))) ?_
  refine f_stepP rfl rfl rfl (o_assign rfl) ?_
  refine f_done ?_
  refine f_tn (kh5 _ _ ?_)
  clear kh5
  refine f_ret ?_
  exact f_fin1 [] Try.results46 rfl Sub.nil (by rw [ordP, if_neg c9])


theorem SortPr_spec (A : Option Addr) (cap : Nat) (l : List Pr) (m : Seg) (w : World) (hp : ∀ p ∈ l, POk p) (ho : Own 47 2 (.slice A l.length cap) l.length (l.flatMap prCs) m) (hl : l.length < 4611686018427387904) (hw : Owns w [m]) :
    Meets Try.prog 45 [.slice A l.length cap, .func (.func 46) #[] #[]] w [m] (fun u own' => u = .tuple #[] ∧ ∃ (m' : Seg) (l2 : List Pr), own' = [m'] ∧ l2.Perm l ∧ l2.Pairwise (fun x y => x = y ∨ ltX x y) ∧ Own 47 2 (.slice A l2.length cap) l2.length (l2.flatMap prCs) m') := by
  obtain ⟨l2, e2, hp2, hs2⟩ := sorted_fin l hp
  have hlm : (l.map ofP).map toP = l := by
    rw [List.map_map]
    conv => rhs; rw [← List.map_id l]
    exact List.map_congr_left fun p h => to_of (hp p h)
  have h := meets_sortF Try.laysPr (E := 47) 2 Try.isAgg47 Try.sizeOf47 (fun x : F20 => prCs (toP x)) (fun x => prCs_len _) (fun x v hv => by simp [prCs] at hv; rcases hv with rfl | rfl <;> rfl) cfP swoF totF 46 Try.call46
    (fun x y W => order_spec (toP x) (toP y) W (toP_ok x) (toP_ok y)) A cap (l.map ofP) m w (by rw [flat_toP, hlm, List.length_map]; exact ho) (by rw [List.length_map]; exact hl) hw
  rw [List.length_map] at h
  refine h.mono ?_
  rintro u own' ⟨hu, m', e, ho2⟩
  rw [flat_toP, ← e2] at ho2
  exact ⟨hu, m', l2, e, hp2, hs2, by rw [hp2.length_eq]; exact ho2⟩

set_option maxRecDepth 100000 in
set_option maxHeartbeats 4000000 in
theorem CompactPr_spec (A : Option Addr) (cap : Nat) (l : List (Pr)) (m : Seg) (w : World) (ho : Own 47 2 (.slice A l.length cap) l.length (l.flatMap prCs) m) (hl : l.length ≤ 1000000000) (hw : Owns w [m]) :
    Meets Try.prog 47 [.slice A l.length cap] w [m] (fun u own' => ∃ m', own' = [m'] ∧ Own 47 2 u (cpt l).length ((cpt l).flatMap prCs) m') := by
 refine f_enter Try.func47 rfl Try.ntmps47 rfl hw ?_
 refine f_seq fun K1 kh1 => ?_
 refine f_region ?_
 refine f_stepP rfl rfl rfl (o_assign rfl) ?_
 refine f_done ?_
 refine f_tn (kh1 _ _ ?_)
 clear kh1
 refine f_seq fun K2 kh2 => ?_
 refine f_seq fun K3 kh3 => ?_
 refine f_region ?_
 refine f_stepP rfl rfl rfl (o_move rfl) ?_
 refine f_stepP rfl rfl rfl (o_len sl28 rfl) ?_
 refine f_stepP rfl rfl rfl (o_lss rfl rfl) ?_
 refine f_done ?_
 refine f_tn (kh3 _ _ ?_)
 clear kh3
 refine f_cond rfl (fun c8 => ?_) (fun c8 => ?_)
 ·
  have hcl : cpt l = l := by
    match l, c8 with
    | [], _ => rfl
    | [x], _ => rfl
    | x :: y :: r, h => simp at h; omega
  refine f_seq fun K4 kh4 => ?_
  refine f_region ?_
  refine f_stepP rfl rfl rfl (o_move rfl) ?_
  refine f_stepP rfl rfl rfl (o_assign rfl) ?_
  refine f_done ?_
  refine f_tn (kh4 _ _ ?_)
  clear kh4
  refine f_ret ?_
  refine f_tr ?_
  exact f_fin1 [m] Try.results47 rfl (Sub.pick Sub.nil) ⟨m, rfl, by rw [hcl]; exact ho⟩
 ·
  obtain ⟨b, sp, rfl, rfl, hup⟩ := ho.upd (by omega)
  obtain ⟨_, _, e_, hcap⟩ := ho.val
  cases e_
  have hspl : sp.length = (cap - l.length) * 2 := by
    obtain ⟨_, h | ⟨b', c', sp', e, hm, _, _, h3⟩⟩ := ho
    · omega
    · cases e
      have := List.append_cancel_left (Array.toList_inj.2 (show (l.flatMap prCs ++ sp).toArray = (l.flatMap prCs ++ sp').toArray by simpa using hm))
      rw [this]; exact h3
  refine f_skip ?_
  refine f_tn (kh2 _ _ ?_)
  clear kh2
  refine f_seq fun K5 kh5 => ?_
  refine f_seq fun K6 kh6 => ?_
  refine f_region ?_
  refine f_stepP rfl rfl rfl (o_assign rfl) ?_
  refine f_done ?_
  refine f_tn (kh6 _ _ ?_)
  clear kh6
  refine f_block ?_
  refine f_loopK (α := Nat) [0] (fun k => [(3, .int .i64 (k : Int))]) (fun k => 1 ≤ k ∧ k ≤ l.length ∧ cpt (l.take k) = l.take k) (fun k => l.length - k) (1) ?_ ?_ ?_
  · exact (by repeat (first | exact trivial | refine ⟨rfl, ?_⟩))
  · exact ⟨Nat.le_refl _, by omega, cpt_one (by omega)⟩
  ·
   rintro k ⟨hk1, hkl, hck⟩
   refine f_seq fun K7 kh7 => ?_
   refine f_seq fun K8 kh8 => ?_
   refine f_region ?_
   refine f_stepP rfl rfl rfl (o_move rfl) ?_
   refine f_stepP rfl rfl rfl (o_move rfl) ?_
   refine f_stepP rfl rfl rfl (o_len sl28 rfl) ?_
   refine f_stepP rfl rfl rfl (o_lss rfl rfl) ?_
   refine f_done ?_
   refine f_tn (kh8 _ _ ?_)
   clear kh8
   refine f_cond rfl (fun c13 => ?_) (fun c13 => ?_)
   ·
    have hk : k < l.length := by omega
    refine f_skip ?_
    refine f_tn (kh7 _ _ ?_)
    clear kh7
    refine f_seq fun K9 kh9 => ?_
    refine f_block ?_
    refine f_seq fun K10 kh10 => ?_
    refine f_regionS rfl (by decide +kernel) ?_
    refine f_stillP rfl rfl rfl (o_move rfl) ?_
    refine f_stillP rfl rfl rfl (o_move rfl) ?_
    refine f_stillP rfl rfl rfl (o_idx sl28 rfl rfl (k * 2) ⟨by omega, by omega, by first | omega | (simp; done) | (simp; omega)⟩) ?_
    refine f_stillP rfl rfl rfl (o_loadA (vs := prCs l[k]) Try.isAgg47 Try.sizeOf47 rfl rfl (rdsOwn prCs_len hk)) ?_
    refine f_stillP rfl rfl rfl (o_move rfl) ?_
    refine f_stillP rfl rfl rfl (o_move rfl) ?_
    refine f_stillP rfl rfl rfl (o_sub rfl rfl _ (wrap_i64 (by omega))) ?_
    refine f_stillP rfl rfl rfl (o_idx sl28 rfl rfl ((k - 1) * 2) ⟨by omega, by omega, by first | omega | (simp; done) | (simp; omega)⟩) ?_
    refine f_stillP rfl rfl rfl (o_loadA (vs := prCs l[k - 1]) Try.isAgg47 Try.sizeOf47 rfl rfl (rdsOwn prCs_len (by omega))) ?_
    refine f_stillP rfl rfl rfl (o_eqlA Try.eqGuardType47 (eqPr l[k] (l[k - 1])) rfl rfl) ?_
    refine f_stillD ?_
    refine f_tn (kh10 _ _ ?_)
    clear kh10
    refine f_cond rfl (fun c25 => ?_) (fun c25 => ?_)
    ·
     refine f_seq fun K11 kh11 => ?_
     refine f_region ?_
     refine f_stepP rfl rfl rfl (o_move rfl) ?_
     refine f_stepP rfl rfl rfl (o_move rfl) ?_
     refine f_stepP rfl rfl rfl (o_slice sl28 rfl rfl rfl rfl (fun h => by cases h) k _ _ (.inr ⟨_, _, rfl, by omega⟩) (.inl ⟨rfl, rfl⟩) (.inl ⟨rfl, rfl⟩) ⟨by omega, by omega, by omega⟩ (.slice (some ⟨b, k * 2, none⟩) (l.length - k) (cap - k)) (by rw [if_neg (by omega)]; simp [add_at])) ?_
     refine f_stepP rfl rfl rfl (o_assign rfl) ?_
     refine f_done ?_
     refine f_tn (kh11 _ _ ?_)
     clear kh11
     refine f_seq fun K12 kh12 => ?_
     refine f_seq fun K13 kh13 => ?_
     refine f_region ?_
     refine f_stepP rfl rfl rfl (o_assign rfl) ?_
     refine f_done ?_
     refine f_tn (kh13 _ _ ?_)
     clear kh13
     refine f_block ?_
     refine f_loop (α := Nat × Nat × List (Pr)) [0, 4] (fun ⟨q, i, d⟩ => [(5, .int .i64 (q : Int)), (3, .int .i64 (i : Int))]) (fun ⟨q, i, d⟩ => [[(b, blk (d.flatMap prCs ++ sp) 47)]]) (fun ⟨q, i, d⟩ => 1 ≤ q ∧ k + q ≤ l.length ∧ i < k + q ∧ d.length = l.length ∧ d.take i = cpt (l.take (k + q)) ∧ d.drop (k + q - 1) = l.drop (k + q - 1)) (fun ⟨q, i, d⟩ => l.length - (k + q)) (1, k, l) ?_ ?_ ?_ ?_
     · exact (by repeat (first | exact trivial | refine ⟨rfl, ?_⟩))
     · repeat (first | exact Sub.nil | refine Sub.pick ?_ | refine Sub.castO rfl ?_ | refine Sub.skip ?_)
     · exact ⟨Nat.le_refl _, by omega, by omega, rfl, by rw [cpt_next (by omega) hk, if_pos c25.symm, hck], rfl⟩
     ·
      rintro ⟨q, i, d⟩ ⟨hq1, hql, hik, hdl, hdt, hdd⟩
      refine f_envC (e := [(5, _), (3, _), (0, _), (4, _)]) (by repeat (first | exact trivial | refine ⟨rfl, ?_⟩)) ?_
      refine f_seq fun K14 kh14 => ?_
      refine f_seq fun K15 kh15 => ?_
      refine f_region ?_
      refine f_stepP rfl rfl rfl (o_move rfl) ?_
      refine f_stepP rfl rfl rfl (o_move rfl) ?_
      refine f_stepP rfl rfl rfl (o_len sl28 rfl) ?_
      refine f_stepP rfl rfl rfl (o_lss rfl rfl) ?_
      refine f_done ?_
      refine f_tn (kh15 _ _ ?_)
      clear kh15
      refine f_cond rfl (fun c32 => ?_) (fun c32 => ?_)
      ·
       have hj' : k + q < l.length := by omega
       have hd1 := dropk_get hdl hdd (j := k + q) (by omega) hj'
       have hd2 := dropk_get hdl hdd (j := k + q - 1) (Nat.le_refl _) (by omega)
       refine f_skip ?_
       refine f_tn (kh14 _ _ ?_)
       clear kh14
       refine f_seq fun K16 kh16 => ?_
       refine f_block ?_
       refine f_seq fun K17 kh17 => ?_
       refine f_regionS rfl (by decide +kernel) ?_
       refine f_stillP rfl rfl rfl (o_move rfl) ?_
       refine f_stillP rfl rfl rfl (o_move rfl) ?_
       refine f_stillP rfl rfl rfl (o_idx sl28 rfl rfl ((k + q) * 2) ⟨by omega, by omega, by first | omega | (simp; done) | (simp; omega)⟩) ?_
       refine f_stillP rfl rfl rfl (o_loadA (vs := prCs l[k + q]) Try.isAgg47 Try.sizeOf47 rfl rfl (by rw [← hd1]; exact rdsOwn prCs_len (by omega))) ?_
       refine f_stillP rfl rfl rfl (o_move rfl) ?_
       refine f_stillP rfl rfl rfl (o_move rfl) ?_
       refine f_stillP rfl rfl rfl (o_sub rfl rfl _ (wrap_i64 (by omega))) ?_
       refine f_stillP rfl rfl rfl (o_idx sl28 rfl rfl ((k + q - 1) * 2) ⟨by omega, by omega, by first | omega | (simp; done) | (simp; omega)⟩) ?_
       refine f_stillP rfl rfl rfl (o_loadA (vs := prCs l[k + q - 1]) Try.isAgg47 Try.sizeOf47 rfl rfl (by rw [← hd2]; exact rdsOwn prCs_len (by omega))) ?_
       refine f_stillP rfl rfl rfl (o_neqA Try.eqGuardType47 (eqPr l[k + q] (l[k + q - 1])) rfl rfl) ?_
       refine f_stillD ?_
       refine f_tn (kh17 _ _ ?_)
       clear kh17
       refine f_cond rfl (fun c44 => ?_) (fun c44 => ?_)
       ·
        refine f_seq fun K18 kh18 => ?_
        refine f_region ?_
        refine f_stepP rfl rfl rfl (o_move rfl) ?_
        refine f_stepP rfl rfl rfl (o_move rfl) ?_
        refine f_stepP rfl rfl rfl (o_move rfl) ?_
        refine f_stepP rfl rfl rfl (o_move rfl) ?_
        refine f_stepP rfl rfl rfl (o_idx sl28 rfl rfl ((k + q) * 2) ⟨by omega, by omega, by first | omega | (simp; done) | (simp; omega)⟩) ?_
        refine f_stepP rfl rfl rfl (o_loadA (vs := prCs l[k + q]) Try.isAgg47 Try.sizeOf47 rfl rfl (by rw [← hd1]; exact rdsOwn prCs_len (by omega))) ?_
        refine f_stepP rfl rfl rfl (o_idx sl28 rfl rfl (i * 2) ⟨by omega, by omega, by first | omega | (simp; done) | (simp; omega)⟩) ?_
        refine f_step0 rfl rfl (o_storeA Try.sizeOf47 rfl rfl rfl rfl (by show i * 2 + 2 ≤ _; rw [List.length_append, flat_length prCs prCs_len]; omega) ((d.set i l[k + q]).flatMap prCs ++ sp) (setMany_flat prCs_len sp _ _ _ (by omega)) ?_)
        refine f_done ?_
        refine f_tn (kh18 _ _ ?_)
        clear kh18
        refine f_region ?_
        refine f_stepP rfl rfl rfl (o_move rfl) ?_
        refine f_stepP rfl rfl rfl (o_add rfl rfl _ (wrap_i64 (by omega))) ?_
        refine f_stepP rfl rfl rfl (o_assign rfl) ?_
        refine f_done ?_
        refine f_bn ?_
        refine f_tn (kh16 _ _ ?_)
        clear kh16
        refine f_region ?_
        refine f_stepP rfl rfl rfl (o_move rfl) ?_
        refine f_stepP rfl rfl rfl (o_add rfl rfl _ (wrap_i64 (by omega))) ?_
        refine f_stepP rfl rfl rfl (o_assign rfl) ?_
        refine f_done ?_
        refine f_tn (f_again (q + 1, i + 1, d.set i l[k + q]) (by first | omega | (dsimp only; omega) | (simp; omega)) ⟨by omega, by omega, by omega, by simpa using hdl, (cptk_put hj' hik hdl hdt hdd c44).1, (cptk_put hj' hik hdl hdt hdd c44).2⟩ ?_ ?_ ?_)
        · exact (by repeat (first | exact trivial | refine ⟨rfl, ?_⟩))
        · exact (by repeat (first | exact trivial | refine ⟨rfl, ?_⟩))
        · repeat (first | exact Sub.nil | refine Sub.pick ?_ | refine Sub.castO rfl ?_ | refine Sub.skip ?_)
       ·
        refine f_skip ?_
        refine f_bn ?_
        refine f_tn (kh16 _ _ ?_)
        clear kh16
        refine f_region ?_
        refine f_stepP rfl rfl rfl (o_move rfl) ?_
        refine f_stepP rfl rfl rfl (o_add rfl rfl _ (wrap_i64 (by omega))) ?_
        refine f_stepP rfl rfl rfl (o_assign rfl) ?_
        refine f_done ?_
        refine f_tn (f_again (q + 1, i, d) (by first | omega | (dsimp only; omega) | (simp; omega)) ⟨by omega, by omega, by omega, hdl, (cptk_pass hj' (by omega) hdt hdd (by simpa using c44)).1, (cptk_pass hj' (by omega) hdt hdd (by simpa using c44)).2⟩ ?_ ?_ ?_)
        · exact (by repeat (first | exact trivial | refine ⟨rfl, ?_⟩))
        · exact (by repeat (first | exact trivial | refine ⟨rfl, ?_⟩))
        · repeat (first | exact Sub.nil | refine Sub.pick ?_ | refine Sub.castO rfl ?_ | refine Sub.skip ?_)
      ·
       refine f_exit ?_
       refine f_te ?_
       clear kh14
       refine f_te ?_
       refine f_be ?_
       refine f_tn (kh12 _ _ ?_)
       clear kh12
       refine f_seq fun K19 kh19 => ?_
       obtain rfl : q = l.length - k := by omega
       rw [show k + (l.length - k) = l.length by omega, List.take_length] at hdt
       have hiL : (cpt l).length = i := by rw [← hdt]; simp; omega
       refine f_region ?_
       refine f_stepP rfl rfl rfl (o_move rfl) ?_
       refine f_stepP rfl rfl rfl (o_move rfl) ?_
       refine f_stepP rfl rfl rfl (o_slice sl28 rfl rfl rfl rfl (fun h => by cases h) i _ _ (.inr ⟨_, _, rfl, by omega⟩) (.inl ⟨rfl, rfl⟩) (.inl ⟨rfl, rfl⟩) ⟨by omega, by omega, by omega⟩ (.slice (some ⟨b, i * 2, none⟩) (l.length - i) (cap - i)) (by rw [if_neg (by omega)]; simp [add_at])) ?_
       refine f_step0 rfl rfl (o_clear el28 rfl rfl (by rw [List.length_append, flat_length prCs prCs_len]; omega) ((d.take i).flatMap prCs ++ ((List.replicate (l.length - i) [.int .i64 0, .int .i64 0]).flatten ++ sp)) (cptk_zero prCs_len (by omega) sp _ (by rw [hdl]; simp)) ?_)
       refine f_done ?_
       refine f_tn (kh19 _ _ ?_)
       clear kh19
       refine f_seq fun K20 kh20 => ?_
       refine f_region ?_
       refine f_stepP rfl rfl rfl (o_move rfl) ?_
       refine f_stepP rfl rfl rfl (o_move rfl) ?_
       refine f_stepP rfl rfl rfl (o_slice sl28 rfl rfl rfl rfl (fun h => by cases h) 0 i cap (.inl ⟨rfl, rfl⟩) (.inr ⟨_, _, rfl, by omega⟩) (.inl ⟨rfl, rfl⟩) ⟨by omega, by omega, by omega⟩ (.slice (some ⟨b, 0, none⟩) i cap) (by rw [if_neg (by omega)]; simp [add_at])) ?_
       refine f_stepP rfl rfl rfl (o_assign rfl) ?_
       refine f_done ?_
       refine f_tn (kh20 _ _ ?_)
       clear kh20
       refine f_ret ?_
       refine f_br ?_
       refine f_tr ?_
       refine f_tr ?_
       refine f_br ?_
       refine f_tr ?_
       exact f_fin1 [[(b, blk ((d.take i).flatMap prCs ++ ((List.replicate (l.length - i) [.int .i64 0, .int .i64 0]).flatten ++ sp)) 47)]] Try.results47 rfl (by repeat (first | exact Sub.nil | refine Sub.pick ?_)) ⟨_, rfl, by rw [hiL, ← hdt]; exact ⟨by rw [flat_length prCs prCs_len, List.length_take, Nat.min_eq_left (by omega)], .inr ⟨b, cap, _, rfl, rfl, by omega, by omega, by rw [List.length_append, hspl]; simp; omega⟩⟩⟩
    ·
     refine f_skip ?_
     refine f_bn ?_
     refine f_tn (kh9 _ _ ?_)
     clear kh9
     refine f_region ?_
     refine f_stepP rfl rfl rfl (o_move rfl) ?_
     refine f_stepP rfl rfl rfl (o_add rfl rfl _ (wrap_i64 (by omega))) ?_
     refine f_stepP rfl rfl rfl (o_assign rfl) ?_
     refine f_done ?_
     refine f_tn (f_again (k + 1) (by first | omega | (dsimp only; omega) | (simp; omega)) ⟨by omega, by omega, by rw [cpt_next (by omega) hk, if_neg (fun e => c25 e.symm), hck, ← List.take_succ_eq_append_getElem hk]⟩ ?_ ?_ ?_)
     · exact (by repeat (first | exact trivial | refine ⟨rfl, ?_⟩))
     · exact (by repeat (first | exact trivial | refine ⟨rfl, ?_⟩))
     · repeat (first | exact Sub.nil | refine Sub.pick ?_ | refine Sub.castO rfl ?_ | refine Sub.skip ?_)
   ·
    refine f_exit ?_
    refine f_te ?_
    clear kh7
    refine f_te ?_
    refine f_be ?_
    refine f_tn (kh5 _ _ ?_)
    clear kh5
    refine f_seq fun K21 kh21 => ?_
    refine f_region ?_
    refine f_stepP rfl rfl rfl (o_move rfl) ?_
    refine f_stepP rfl rfl rfl (o_assign rfl) ?_
    refine f_done ?_
    refine f_tn (kh21 _ _ ?_)
    clear kh21
    refine f_ret ?_
    have hcl : cpt l = l := by rw [List.take_of_length_le (by omega)] at hck; exact hck
    exact f_fin1 [[(b, blk (l.flatMap prCs ++ sp) 47)]] Try.results47 rfl (by repeat (first | exact Sub.nil | refine Sub.pick ?_)) ⟨_, rfl, by rw [hcl]; exact ho⟩

set_option maxRecDepth 100000 in
set_option maxHeartbeats 4000000 in
theorem ClipPr_spec (A : Option Addr) (len cap : Nat) (w : World) (h : len ≤ cap) (hm : cap ≤ 9223372036854775807) (hA : A = none → len = 0) :
    Meets Try.prog 31 [.slice A len cap] w [] (fun u m => u = .slice A len len ∧ m = []) := by
 refine f_enter Try.func31 rfl Try.ntmps31 rfl Owns.nil ?_
 refine f_seq fun K1 kh1 => ?_
 refine f_region ?_
 refine f_stepP rfl rfl rfl (o_assign rfl) ?_
 refine f_done ?_
 refine f_tn (kh1 _ _ ?_)
 clear kh1
 refine f_seq fun K2 kh2 => ?_
 refine f_region ?_
 refine f_stepP rfl rfl rfl (o_move rfl) ?_
 refine f_stepP rfl rfl rfl (o_move rfl) ?_
 refine f_stepP rfl rfl rfl (o_len sl28 rfl) ?_
 refine f_stepP rfl rfl rfl (o_move rfl) ?_
 refine f_stepP rfl rfl rfl (o_len sl28 rfl) ?_
 refine f_stepP rfl rfl rfl (o_slice sl28 rfl rfl rfl rfl (fun _ => rfl) 0 len len (.inl ⟨rfl, rfl⟩) (.inr ⟨_, _, rfl, by omega⟩) (.inr ⟨_, _, rfl, by omega⟩) ⟨by omega, by omega, by omega⟩ (.slice A len len) (by rw [Nat.sub_zero]; congr 1; split; rfl; cases A with | none => rfl | some x => obtain ⟨p, q, r⟩ := x; cases r <;> simp [Addr.add])) ?_
 refine f_stepP rfl rfl rfl (o_assign rfl) ?_
 refine f_done ?_
 refine f_tn (kh2 _ _ ?_)
 clear kh2
 refine f_ret ?_
 exact f_fin1 [] Try.results31 rfl Sub.nil ⟨rfl, rfl⟩

set_option maxRecDepth 100000 in
set_option maxHeartbeats 4000000 in
theorem pairs_spec (n : Nat) (A : Option Addr) (l : List Arc) (cap : Nat) (w : World) (hr : Ro (Fr w []) w A (l.flatMap arcCs)) (hg : (gcheck (n : Int) l).2 = 0) :
    Meets Try.prog 29 [.agg #[.int .i64 (n : Int), .slice A l.length cap]] w [] (fun u own' => ∃ A' m', u = .slice A' (prs n l).length (prs n l).length ∧ own' = [m'] ∧ ∃ c, Own 47 2 (.slice A' (prs n l).length c) (prs n l).length ((prs n l).flatMap prCs) m') := by
 obtain ⟨hn1, hn2, hlen, hgd⟩ := gcheck_zero hg
 refine f_enter Try.func29 rfl Try.ntmps29 rfl Owns.nil ?_
 refine f_seq fun K1 kh1 => ?_
 refine f_region ?_
 refine f_step rfl rfl rfl (o_box rfl rfl fun b1 => ?_)
 refine f_stepP rfl rfl rfl (o_assign rfl) ?_
 refine f_done ?_
 refine f_tn (kh1 _ _ ?_)
 clear kh1
 refine f_seq fun K2 kh2 => ?_
 refine f_region ?_
 refine f_stepP rfl rfl rfl (o_assign rfl) ?_
 refine f_done ?_
 refine f_tn (kh2 _ _ ?_)
 clear kh2
 refine f_seq fun K3 kh3 => ?_
 refine f_seq fun K4 kh4 => ?_
 refine f_region ?_
 refine f_stepP rfl rfl rfl (o_field fa24_1 rfl) ?_
 refine f_stepP rfl rfl rfl (o_load Try.isAgg22 rfl (rdA rfl)) ?_
 refine f_stepP rfl rfl rfl (o_len sl22 rfl) ?_
 refine f_stepP rfl rfl rfl (o_move rfl) ?_
 refine f_done ?_
 refine f_tn (kh4 _ _ ?_)
 clear kh4
 refine f_block ?_
 refine f_loop (α := Nat × Value × Seg) [7, 8] (fun ⟨i, vo, mo⟩ => [(9, .int .i64 (i : Int)), (3, vo)]) (fun ⟨i, vo, mo⟩ => [mo, [(b1, blk [.int .i64 (n : Int), .slice A l.length cap] 24)]]) (fun ⟨i, vo, mo⟩ => i ≤ l.length ∧ Own 47 2 vo (prRaw (l.take i)).length ((prRaw (l.take i)).flatMap prCs) mo) (fun ⟨i, vo, mo⟩ => l.length - i) (0, .slice none 0 0, []) ?_ ?_ ?_ ?_
 · exact (by repeat (first | exact trivial | refine ⟨rfl, ?_⟩))
 · repeat (first | exact Sub.nil | refine Sub.pick ?_ | refine Sub.castO rfl ?_ | refine Sub.skip ?_)
 · exact ⟨by omega, Own.nil _ _⟩
 ·
  rintro ⟨i, vo, mo⟩ ⟨hil, ho1⟩
  have hrl := raw_len (l.take i)
  rw [List.length_take] at hrl
  refine f_seq fun K5 kh5 => ?_
  refine f_region ?_
  refine f_stepP rfl rfl rfl (o_lss rfl rfl) ?_
  refine f_done ?_
  refine f_tn (kh5 _ _ ?_)
  clear kh5
  refine f_seq fun K6 kh6 => ?_
  refine f_cond rfl (fun c10 => ?_) (fun c10 => ?_)
  ·
   have hi : i < l.length := by omega
   obtain ⟨bq, off, rfl, hS, hc⟩ := hr (flat_ne arcCs arcCs_len (by omega) hi)
   refine f_skip ?_
   refine f_tn (kh6 _ _ ?_)
   clear kh6
   refine f_seq fun K7 kh7 => ?_
   refine f_block ?_
   refine f_seq fun K8 kh8 => ?_
   refine f_region ?_
   refine f_stepP rfl rfl rfl (o_idx sl22 rfl rfl (off + i * 3) ⟨by omega, by omega, by first | omega | (simp; done) | (simp; omega)⟩) ?_
   refine f_stepP rfl rfl rfl (o_loadA (vs := arcCs l[i]) Try.isAgg55 Try.sizeOf55 rfl rfl (roElem arcCs_len hS hc hi)) ?_
   refine f_step rfl rfl rfl (o_alloc Try.zeroValue55 rfl fun b5 => ?_)
   refine f_step0 rfl rfl (o_storeA Try.sizeOf55 rfl rfl rfl rfl (by first | exact Nat.le_of_ble_eq_true rfl | (simp; done) | (simp; omega)) (arcCs l[i]) rfl ?_)
   refine f_done ?_
   refine f_tn (kh8 _ _ ?_)
   clear kh8
   refine f_seq fun K9 kh9 => ?_
   refine f_region ?_
   refine f_stepP rfl rfl rfl (o_field fa55_0 rfl) ?_
   refine f_stepP rfl rfl rfl (o_load Try.isAgg3 rfl (rdA rfl)) ?_
   refine f_stepP rfl rfl rfl (o_field fa55_1 rfl) ?_
   refine f_stepP rfl rfl rfl (o_load Try.isAgg3 rfl (rdA rfl)) ?_
   refine f_stepP rfl rfl rfl (o_neq rfl rfl) ?_
   refine f_done ?_
   refine f_tn (kh9 _ _ ?_)
   clear kh9
   refine f_cond rfl (fun c17 => ?_) (fun c17 => ?_)
   ·
    have hq : prRaw (l.take (i + 1)) = prRaw (l.take i) ++ [prOf l[i]] := by rw [raw_next hi, if_pos c17]
    refine f_region ?_
    refine f_stepP rfl rfl rfl (o_move rfl) ?_
    refine f_stepP rfl rfl rfl (o_field fa55_0 rfl) ?_
    refine f_stepP rfl rfl rfl (o_load Try.isAgg3 rfl (rdA rfl)) ?_
    refine f_stepP rfl rfl rfl (o_field fa55_1 rfl) ?_
    refine f_stepP rfl rfl rfl (o_load Try.isAgg3 rfl (rdA rfl)) ?_
    refine f_stepP rfl rfl rfl (o_min rfl rfl) ?_
    refine f_stepP rfl rfl rfl (o_field fa55_0 rfl) ?_
    refine f_stepP rfl rfl rfl (o_load Try.isAgg3 rfl (rdA rfl)) ?_
    refine f_stepP rfl rfl rfl (o_field fa55_1 rfl) ?_
    refine f_stepP rfl rfl rfl (o_load Try.isAgg3 rfl (rdA rfl)) ?_
    refine f_stepP rfl rfl rfl (o_max rfl rfl) ?_
    refine f_stepP rfl rfl rfl (o_build (cs := prCs (prOf l[i])) st47 rfl rfl) ?_
    refine f_step rfl rfl rfl (o_slice1 el28 (by omega) rfl rfl rfl fun b30 => ?_)
    refine f_step rfl rfl rfl (o_append el28 rfl rfl ho1 (ys := prCs (prOf l[i])) ⟨(rdA rfl), (rdA rfl), trivial⟩ rfl rfl (by omega) (by omega) fun v31 m31 o31 => ?_)
    refine f_stepP rfl rfl rfl (o_assign rfl) ?_
    refine f_done ?_
    refine f_bn ?_
    refine f_tn (kh7 _ _ ?_)
    clear kh7
    refine f_region ?_
    refine f_stepP rfl rfl rfl (o_add rfl rfl _ (wrap_i64 (by omega))) ?_
    refine f_stepP rfl rfl rfl (o_move rfl) ?_
    refine f_done ?_
    refine f_tn (f_again (i + 1, v31, m31) (by first | omega | (dsimp only; omega) | (simp; omega)) ⟨by omega, by rw [hq, List.length_append, List.flatMap_append]; simpa using o31⟩ ?_ ?_ ?_)
    · exact (by repeat (first | exact trivial | refine ⟨rfl, ?_⟩))
    · exact (by repeat (first | exact trivial | refine ⟨rfl, ?_⟩))
    · repeat (first | exact Sub.nil | refine Sub.pick ?_ | refine Sub.castO rfl ?_ | refine Sub.skip ?_)
   ·
    have hq : prRaw (l.take (i + 1)) = prRaw (l.take i) := by rw [raw_next hi, if_neg c17, List.append_nil]
    refine f_skip ?_
    refine f_bn ?_
    refine f_tn (kh7 _ _ ?_)
    clear kh7
    refine f_region ?_
    refine f_stepP rfl rfl rfl (o_add rfl rfl _ (wrap_i64 (by omega))) ?_
    refine f_stepP rfl rfl rfl (o_move rfl) ?_
    refine f_done ?_
    refine f_tn (f_again (i + 1, vo, mo) (by first | omega | (dsimp only; omega) | (simp; omega)) ⟨by omega, by rw [hq]; exact ho1⟩ ?_ ?_ ?_)
    · exact (by repeat (first | exact trivial | refine ⟨rfl, ?_⟩))
    · exact (by repeat (first | exact trivial | refine ⟨rfl, ?_⟩))
    · repeat (first | exact Sub.nil | refine Sub.pick ?_ | refine Sub.castO rfl ?_ | refine Sub.skip ?_)
  ·
   refine f_exit ?_
   refine f_te ?_
   clear kh6
   refine f_te ?_
   refine f_be ?_
   refine f_tn (kh3 _ _ ?_)
   clear kh3
   refine f_seq fun K10 kh10 => ?_
   obtain rfl : i = l.length := by omega
   rw [List.take_length] at ho1
   have hrl2 := raw_len l
   obtain ⟨Ao, co, rfl, hco⟩ := ho1.val
   have hok : ∀ p ∈ prRaw l, POk p := raw_ok (by omega) hgd
   refine f_region ?_
   refine f_stepP rfl rfl rfl (o_move rfl) ?_
   refine f_step rfl rfl rfl (o_callM [mo] _ Try.call45 rfl (by repeat (first | exact Sub.refl | refine Sub.pick ?_)) (fun w_ hp_ => SortPr_spec Ao co (prRaw l) mo w_ hok ho1 (by omega) hp_.owns) ?_)
   rintro _ _ ⟨rfl, m2, l2, rfl, hp2, hs2, ho2⟩
   have hl2 := hp2.length_eq
   have hcp := prs_is (n := n) (raw_good hgd) hp2 hs2
   rw [← hl2]
   dsimp only [List.cons_append, List.nil_append]
   refine f_done ?_
   refine f_tn (kh10 _ _ ?_)
   clear kh10
   refine f_seq fun K11 kh11 => ?_
   refine f_region ?_
   refine f_stepP rfl rfl rfl (o_move rfl) ?_
   refine f_step rfl rfl rfl (o_callM [m2] _ Try.call47 rfl (by repeat (first | exact Sub.refl | refine Sub.pick ?_)) (fun w_ hp_ => CompactPr_spec Ao co l2 m2 w_ ho2 (by omega) hp_.owns) ?_)
   rintro v36 _ ⟨m3, rfl, ho3⟩
   rw [hcp] at ho3
   obtain ⟨A3, c3, rfl, hc3⟩ := ho3.val
   dsimp only [List.cons_append, List.nil_append]
   refine f_step rfl rfl rfl (o_call Try.call31 rfl (fun w_ hp_ => ClipPr_spec A3 (prs n l).length c3 w_ hc3.1 hc3.2 (own_none ho3)) ?_)
   rintro _ _ ⟨rfl, rfl⟩
   dsimp only [List.cons_append, List.nil_append]
   refine f_stepP rfl rfl rfl (o_assign rfl) ?_
   refine f_done ?_
   refine f_tn (kh11 _ _ ?_)
   clear kh11
   refine f_ret ?_
   exact f_fin1 [m3] Try.results29 rfl (by repeat (first | exact Sub.nil | refine Sub.pick ?_ | refine Sub.castO rfl ?_)) ⟨A3, m3, rfl, rfl, c3, ho3⟩

end Go.Proofs.Ytbjiejhdgkpjcaa

/- flyoverbook: whether lists and graphs are the same. -/
namespace Go.Proofs.Ytbjiejhdgkpjcaa
open Go Go.RowKit Fly
set_option linter.unusedVariables false
set_option linter.unusedSimpArgs false


theorem prefix_next {α : Type} {l r : List α} {k : Nat} (hl : l.length = r.length) (hk : k < l.length) (h : ∀ j (a : j < l.length) (b : j < r.length), j < k → l[j] = r[j]) (e : l[k] = r[k]'(hl ▸ hk)) :
    ∀ j (a : j < l.length) (b : j < r.length), j < k + 1 → l[j] = r[j] := fun j a b hj => by
  by_cases hjk : j = k
  · subst hjk; exact e
  · exact h j a b (by omega)
theorem prefix_all {α : Type} {l r : List α} {k : Nat} (hl : l.length = r.length) (hk : l.length ≤ k) (h : ∀ j (a : j < l.length) (b : j < r.length), j < k → l[j] = r[j]) : l = r :=
  List.ext_getElem hl fun j a b => h j a b (by omega)
theorem ne_at {α : Type} {l r : List α} {k : Nat} (hk : k < l.length) (hk' : k < r.length) (e : l[k] ≠ r[k]) : l ≠ r := fun h => by subst h; exact e rfl

set_option maxRecDepth 100000 in
set_option maxHeartbeats 4000000 in
theorem SameInts_spec (A B : Option Addr) (l r : List Int) (ca cb : Nat) (w : World) (hl : Ro (Fr w []) w A (ints l)) (hr : Ro (Fr w []) w B (ints r)) (hm : l.length ≤ 9223372036854775807) :
    Meets Try.prog 17 [.slice A l.length ca, .slice B r.length cb] w [] (fun u m => u = .bool (decide (l = r)) ∧ m = []) := by
 refine f_enter Try.func17 rfl Try.ntmps17 rfl Owns.nil ?_
 refine f_seq fun K1 kh1 => ?_
 refine f_region ?_
 refine f_stepP rfl rfl rfl (o_assign rfl) ?_
 refine f_done ?_
 refine f_tn (kh1 _ _ ?_)
 clear kh1
 refine f_seq fun K2 kh2 => ?_
 refine f_seq fun K3 kh3 => ?_
 refine f_region ?_
 refine f_stepP rfl rfl rfl (o_move rfl) ?_
 refine f_stepP rfl rfl rfl (o_len sl35 rfl) ?_
 refine f_stepP rfl rfl rfl (o_move rfl) ?_
 refine f_stepP rfl rfl rfl (o_len sl35 rfl) ?_
 refine f_stepP rfl rfl rfl (o_neq rfl rfl) ?_
 refine f_done ?_
 refine f_tn (kh3 _ _ ?_)
 clear kh3
 refine f_cond rfl (fun c10 => ?_) (fun c10 => ?_)
 ·
  refine f_seq fun K4 kh4 => ?_
  refine f_region ?_
  refine f_stepP rfl rfl rfl (o_assign rfl) ?_
  refine f_done ?_
  refine f_tn (kh4 _ _ ?_)
  clear kh4
  refine f_ret ?_
  refine f_tr ?_
  exact f_fin1 [] Try.results17 rfl Sub.nil ⟨by rw [decide_eq_false]; intro e; subst e; omega, rfl⟩
 ·
  have hlr : l.length = r.length := by omega
  refine f_skip ?_
  refine f_tn (kh2 _ _ ?_)
  clear kh2
  refine f_seq fun K5 kh5 => ?_
  refine f_seq fun K6 kh6 => ?_
  refine f_region ?_
  refine f_stepP rfl rfl rfl (o_assign rfl) ?_
  refine f_done ?_
  refine f_tn (kh6 _ _ ?_)
  clear kh6
  refine f_block ?_
  refine f_loopK (α := Nat) [0, 1] (fun k => [(5, .int .i64 (k : Int))]) (fun k => k ≤ l.length ∧ ∀ j (a : j < l.length) (b : j < r.length), j < k → l[j] = r[j]) (fun k => l.length - k) (0) ?_ ?_ ?_
  · exact (by repeat (first | exact trivial | refine ⟨rfl, ?_⟩))
  · exact ⟨by omega, fun j _ _ hj => by omega⟩
  ·
   rintro k ⟨hkl, hpre⟩
   refine f_seq fun K7 kh7 => ?_
   refine f_seq fun K8 kh8 => ?_
   refine f_region ?_
   refine f_stepP rfl rfl rfl (o_move rfl) ?_
   refine f_stepP rfl rfl rfl (o_move rfl) ?_
   refine f_stepP rfl rfl rfl (o_len sl35 rfl) ?_
   refine f_stepP rfl rfl rfl (o_lss rfl rfl) ?_
   refine f_done ?_
   refine f_tn (kh8 _ _ ?_)
   clear kh8
   refine f_cond rfl (fun c14 => ?_) (fun c14 => ?_)
   ·
    refine f_skip ?_
    refine f_tn (kh7 _ _ ?_)
    clear kh7
    refine f_seq fun K9 kh9 => ?_
    refine f_block ?_
    refine f_seq fun K10 kh10 => ?_
    refine f_regionS rfl (by decide +kernel) ?_
    have hk : k < l.length := by omega
    have hk' : k < r.length := by omega
    obtain ⟨b1, o1, rfl, hS1, hc1⟩ := hl (fun e => by have := ints_length l; rw [e] at this; simp at this; omega)
    obtain ⟨b2, o2, rfl, hS2, hc2⟩ := hr (fun e => by have := ints_length r; rw [e] at this; simp at this; omega)
    refine f_stillP rfl rfl rfl (o_move rfl) ?_
    refine f_stillP rfl rfl rfl (o_move rfl) ?_
    refine f_stillP rfl rfl rfl (o_idx sl35 rfl rfl (o1 + k) ⟨by omega, by omega, by first | omega | (simp; done) | (simp; omega)⟩) ?_
    refine f_stillP rfl rfl rfl (o_load Try.isAgg3 rfl (roOne (enc := (.int .i64 ·)) hS1 hc1 hk)) ?_
    refine f_stillP rfl rfl rfl (o_move rfl) ?_
    refine f_stillP rfl rfl rfl (o_move rfl) ?_
    refine f_stillP rfl rfl rfl (o_idx sl35 rfl rfl (o2 + k) ⟨by omega, by omega, by first | omega | (simp; done) | (simp; omega)⟩) ?_
    refine f_stillP rfl rfl rfl (o_load Try.isAgg3 rfl (roOne (enc := (.int .i64 ·)) hS2 hc2 hk')) ?_
    refine f_stillP rfl rfl rfl (o_neq rfl rfl) ?_
    refine f_stillD ?_
    refine f_tn (kh10 _ _ ?_)
    clear kh10
    refine f_cond rfl (fun c25 => ?_) (fun c25 => ?_)
    ·
     refine f_seq fun K11 kh11 => ?_
     refine f_region ?_
     refine f_stepP rfl rfl rfl (o_assign rfl) ?_
     refine f_done ?_
     refine f_tn (kh11 _ _ ?_)
     clear kh11
     refine f_ret ?_
     refine f_br ?_
     refine f_tr ?_
     refine f_tr ?_
     refine f_br ?_
     refine f_tr ?_
     exact f_fin1 [] Try.results17 rfl Sub.nil ⟨by rw [decide_eq_false]; exact ne_at hk hk' c25, rfl⟩
    ·
     refine f_skip ?_
     refine f_bn ?_
     refine f_tn (kh9 _ _ ?_)
     clear kh9
     refine f_region ?_
     refine f_stepP rfl rfl rfl (o_move rfl) ?_
     refine f_stepP rfl rfl rfl (o_add rfl rfl _ (wrap_i64 (by omega))) ?_
     refine f_stepP rfl rfl rfl (o_assign rfl) ?_
     refine f_done ?_
     refine f_tn (f_again (k + 1) (by first | omega | (dsimp only; omega) | (simp; omega)) ⟨by omega, prefix_next hlr hk hpre (by omega)⟩ ?_ ?_ ?_)
     · exact (by repeat (first | exact trivial | refine ⟨rfl, ?_⟩))
     · exact (by repeat (first | exact trivial | refine ⟨rfl, ?_⟩))
     · repeat (first | exact Sub.nil | refine Sub.pick ?_ | refine Sub.castO rfl ?_ | refine Sub.skip ?_)
   ·
    refine f_exit ?_
    refine f_te ?_
    clear kh7
    refine f_te ?_
    refine f_be ?_
    refine f_tn (kh5 _ _ ?_)
    clear kh5
    refine f_seq fun K12 kh12 => ?_
    refine f_region ?_
    refine f_stepP rfl rfl rfl (o_assign rfl) ?_
    refine f_done ?_
    refine f_tn (kh12 _ _ ?_)
    clear kh12
    refine f_ret ?_
    exact f_fin1 [] Try.results17 rfl Sub.nil ⟨by rw [decide_eq_true]; exact prefix_all hlr (by omega) hpre, rfl⟩


set_option maxRecDepth 100000 in
theorem eqArc (x y : Arc) (w : World) : (Op.equalIn 10000 55 (.agg (arcCs x).toArray) (.agg (arcCs y).toArray)).run Try.prog w = .ok (decide (x = y)) w := by
  have hf : Try.prog.fieldsOf 55 = (match Try.prog.underlying 55 with | some (.struct fs) => fs | _ => #[]) := rfl
  rw [Try.underlying55] at hf
  rw [run_equalIn_struct (P := Try.prog) w 9999 55 _ _ (by rw [hf]; exact Try.underlying55) Try.stoodInHeld55, hf]
  obtain ⟨a, b, c⟩ := x
  obtain ⟨a', b', c'⟩ := y
  have ii : ∀ (k k' : IntKind) (p q : Int) (T : TypeId) (v : World), Try.prog.underlying T = some (.int k') → (Op.equalIn 9999 T (.int k p) (.int k q)).run Try.prog v = .ok (p == q) v := fun k k' p q T v h => run_equalIn_int v 9998 T k k' p q h
  simp only [Op.eqFields, arcCs, part, Sem.run_bind, Sem.run_ite, Try.isAgg3, Try.isAgg53, Result.andThen_ok, Sem.run_pure, ne_eq, Bool.false_eq_true, if_false]
  simp [ii _ _ _ _ _ _ Try.underlying3, ii _ _ _ _ _ _ Try.underlying53]
  by_cases h1 : a = a' <;> by_cases h2 : b = b' <;> by_cases h3 : c = c' <;> simp [h1, h2, h3]

set_option maxRecDepth 100000 in
set_option maxHeartbeats 4000000 in
theorem SameGraph_spec (N M : Int) (A B : Option Addr) (l r : List Arc) (ca cb : Nat) (w : World) (hl : Ro (Fr w []) w A (l.flatMap arcCs)) (hr : Ro (Fr w []) w B (r.flatMap arcCs)) (hm : l.length ≤ 9223372036854775807) :
    Meets Try.prog 36 [.agg #[.int .i64 N, .slice A l.length ca], .agg #[.int .i64 M, .slice B r.length cb]] w [] (fun u m => u = .bool (decide (N = M ∧ l = r)) ∧ m = []) := by
 refine f_enter Try.func36 rfl Try.ntmps36 rfl Owns.nil ?_
 refine f_seq fun K1 kh1 => ?_
 refine f_region ?_
 refine f_step rfl rfl rfl (o_box rfl rfl fun b2 => ?_)
 refine f_step rfl rfl rfl (o_box rfl rfl fun b3 => ?_)
 refine f_stepP rfl rfl rfl (o_assign rfl) ?_
 refine f_done ?_
 refine f_tn (kh1 _ _ ?_)
 clear kh1
 refine f_seq fun K2 kh2 => ?_
 refine f_seq fun K3 kh3 => ?_
 refine f_region ?_
 refine f_stepP rfl rfl rfl (o_field fa24_0 rfl) ?_
 refine f_stepP rfl rfl rfl (o_load Try.isAgg3 rfl (rdA rfl)) ?_
 refine f_stepP rfl rfl rfl (o_field fa24_0 rfl) ?_
 refine f_stepP rfl rfl rfl (o_load Try.isAgg3 rfl (rdA rfl)) ?_
 refine f_stepP rfl rfl rfl (o_neq rfl rfl) ?_
 refine f_stepP rfl rfl rfl (o_move rfl) ?_
 refine f_splitL 11 rfl (fun g11 => ?_) (fun g11 => ?_)
 ·
  refine f_stepN rfl rfl rfl rfl rfl rfl ?_
  refine f_stepN rfl rfl rfl rfl rfl rfl ?_
  refine f_stepN rfl rfl rfl rfl rfl rfl ?_
  refine f_stepN rfl rfl rfl rfl rfl rfl ?_
  refine f_stepN rfl rfl rfl rfl rfl rfl ?_
  refine f_stepN rfl rfl rfl rfl rfl rfl ?_
  refine f_stepN rfl rfl rfl rfl rfl rfl ?_
  refine f_stepP rfl rfl rfl (o_pickT rfl rfl) ?_
  refine f_done ?_
  refine f_tn (kh3 _ _ ?_)
  clear kh3
  refine f_condT rfl ?_
  refine f_seq fun K4 kh4 => ?_
  refine f_region ?_
  refine f_stepP rfl rfl rfl (o_assign rfl) ?_
  refine f_done ?_
  refine f_tn (kh4 _ _ ?_)
  clear kh4
  refine f_ret ?_
  refine f_tr ?_
  exact f_fin1 [] Try.results36 rfl Sub.nil ⟨by rw [decide_eq_false]; intro e; omega, rfl⟩
 ·
  refine f_stepPY rfl rfl rfl rfl rfl (o_field fa24_1 rfl) ?_
  refine f_stepPY rfl rfl rfl rfl rfl (o_load Try.isAgg22 rfl (rdA rfl)) ?_
  refine f_stepPY rfl rfl rfl rfl rfl (o_len sl22 rfl) ?_
  refine f_stepPY rfl rfl rfl rfl rfl (o_field fa24_1 rfl) ?_
  refine f_stepPY rfl rfl rfl rfl rfl (o_load Try.isAgg22 rfl (rdA rfl)) ?_
  refine f_stepPY rfl rfl rfl rfl rfl (o_len sl22 rfl) ?_
  refine f_stepPY rfl rfl rfl rfl rfl (o_neq rfl rfl) ?_
  refine f_stepP rfl rfl rfl (o_pickF rfl rfl) ?_
  refine f_done ?_
  refine f_tn (kh3 _ _ ?_)
  clear kh3
  refine f_cond rfl (fun c19 => ?_) (fun c19 => ?_)
  ·
   refine f_seq fun K5 kh5 => ?_
   refine f_region ?_
   refine f_stepP rfl rfl rfl (o_assign rfl) ?_
   refine f_done ?_
   refine f_tn (kh5 _ _ ?_)
   clear kh5
   refine f_ret ?_
   refine f_tr ?_
   exact f_fin1 [] Try.results36 rfl Sub.nil ⟨by rw [decide_eq_false]; rintro ⟨_, e⟩; subst e; omega, rfl⟩
  ·
   have hNM : N = M := by omega
   have hlr : l.length = r.length := by omega
   refine f_skip ?_
   refine f_tn (kh2 _ _ ?_)
   clear kh2
   refine f_seq fun K6 kh6 => ?_
   refine f_seq fun K7 kh7 => ?_
   refine f_region ?_
   refine f_stepP rfl rfl rfl (o_assign rfl) ?_
   refine f_done ?_
   refine f_tn (kh7 _ _ ?_)
   clear kh7
   refine f_block ?_
   refine f_loopK (α := Nat) [2, 3] (fun k => [(5, .int .i64 (k : Int))]) (fun k => k ≤ l.length ∧ ∀ j (a : j < l.length) (b : j < r.length), j < k → l[j] = r[j]) (fun k => l.length - k) (0) ?_ ?_ ?_
   · exact (by repeat (first | exact trivial | refine ⟨rfl, ?_⟩))
   · exact ⟨by omega, fun j _ _ hj => by omega⟩
   ·
    rintro k ⟨hkl, hpre⟩
    refine f_seq fun K8 kh8 => ?_
    refine f_seq fun K9 kh9 => ?_
    refine f_region ?_
    refine f_stepP rfl rfl rfl (o_move rfl) ?_
    refine f_stepP rfl rfl rfl (o_field fa24_1 rfl) ?_
    refine f_stepP rfl rfl rfl (o_load Try.isAgg22 rfl (rdA rfl)) ?_
    refine f_stepP rfl rfl rfl (o_len sl22 rfl) ?_
    refine f_stepP rfl rfl rfl (o_lss rfl rfl) ?_
    refine f_done ?_
    refine f_tn (kh9 _ _ ?_)
    clear kh9
    refine f_cond rfl (fun c24 => ?_) (fun c24 => ?_)
    ·
     refine f_skip ?_
     refine f_tn (kh8 _ _ ?_)
     clear kh8
     refine f_seq fun K10 kh10 => ?_
     refine f_block ?_
     refine f_seq fun K11 kh11 => ?_
     refine f_regionS rfl (by decide +kernel) ?_
     have hk : k < l.length := by omega
     have hk' : k < r.length := by omega
     obtain ⟨b1, o1, rfl, hS1, hc1⟩ := hl (flat_ne arcCs arcCs_len (by omega) hk)
     obtain ⟨b2, o2, rfl, hS2, hc2⟩ := hr (flat_ne arcCs arcCs_len (by omega) hk')
     refine f_stillP rfl rfl rfl (o_field fa24_1 rfl) ?_
     refine f_stillP rfl rfl rfl (o_load Try.isAgg22 rfl (rdA rfl)) ?_
     refine f_stillP rfl rfl rfl (o_move rfl) ?_
     refine f_stillP rfl rfl rfl (o_idx sl22 rfl rfl (o1 + k * 3) ⟨by omega, by omega, by first | omega | (simp; done) | (simp; omega)⟩) ?_
     refine f_stillP rfl rfl rfl (o_loadA (vs := arcCs l[k]) Try.isAgg55 Try.sizeOf55 rfl rfl (roElem arcCs_len hS1 hc1 hk)) ?_
     refine f_stillP rfl rfl rfl (o_field fa24_1 rfl) ?_
     refine f_stillP rfl rfl rfl (o_load Try.isAgg22 rfl (rdA rfl)) ?_
     refine f_stillP rfl rfl rfl (o_move rfl) ?_
     refine f_stillP rfl rfl rfl (o_idx sl22 rfl rfl (o2 + k * 3) ⟨by omega, by omega, by first | omega | (simp; done) | (simp; omega)⟩) ?_
     refine f_stillP rfl rfl rfl (o_loadA (vs := arcCs r[k]) Try.isAgg55 Try.sizeOf55 rfl rfl (roElem arcCs_len hS2 hc2 hk')) ?_
     refine f_stillP rfl rfl rfl (o_neqA Try.eqGuardType55 (eqArc l[k] r[k]) rfl rfl) ?_
     refine f_stillD ?_
     refine f_tn (kh11 _ _ ?_)
     clear kh11
     refine f_cond rfl (fun c37 => ?_) (fun c37 => ?_)
     ·
      refine f_seq fun K12 kh12 => ?_
      refine f_region ?_
      refine f_stepP rfl rfl rfl (o_assign rfl) ?_
      refine f_done ?_
      refine f_tn (kh12 _ _ ?_)
      clear kh12
      refine f_ret ?_
      refine f_br ?_
      refine f_tr ?_
      refine f_tr ?_
      refine f_br ?_
      refine f_tr ?_
      exact f_fin1 [] Try.results36 rfl Sub.nil ⟨by rw [decide_eq_false]; rintro ⟨_, e⟩; exact ne_at hk hk' c37 e, rfl⟩
     ·
      refine f_skip ?_
      refine f_bn ?_
      refine f_tn (kh10 _ _ ?_)
      clear kh10
      refine f_region ?_
      refine f_stepP rfl rfl rfl (o_move rfl) ?_
      refine f_stepP rfl rfl rfl (o_add rfl rfl _ (wrap_i64 (by omega))) ?_
      refine f_stepP rfl rfl rfl (o_assign rfl) ?_
      refine f_done ?_
      refine f_tn (f_again (k + 1) (by first | omega | (dsimp only; omega) | (simp; omega)) ⟨by omega, prefix_next hlr hk hpre (by simpa using c37)⟩ ?_ ?_ ?_)
      · exact (by repeat (first | exact trivial | refine ⟨rfl, ?_⟩))
      · exact (by repeat (first | exact trivial | refine ⟨rfl, ?_⟩))
      · repeat (first | exact Sub.nil | refine Sub.pick ?_ | refine Sub.castO rfl ?_ | refine Sub.skip ?_)
    ·
     refine f_exit ?_
     refine f_te ?_
     clear kh8
     refine f_te ?_
     refine f_be ?_
     refine f_tn (kh6 _ _ ?_)
     clear kh6
     refine f_seq fun K13 kh13 => ?_
     refine f_region ?_
     refine f_stepP rfl rfl rfl (o_assign rfl) ?_
     refine f_done ?_
     refine f_tn (kh13 _ _ ?_)
     clear kh13
     refine f_ret ?_
     exact f_fin1 [] Try.results36 rfl Sub.nil ⟨by rw [decide_eq_true]; exact ⟨hNM, prefix_all hlr (by omega) hpre⟩, rfl⟩

end Go.Proofs.Ytbjiejhdgkpjcaa

/- The graph of some vertices: plain laws. -/

namespace Go.Proofs.Ytbjiejhdgkpjcaa
open Go Fly
set_option linter.unusedVariables false
set_option linter.unusedSimpArgs false

/-- The kept vertices. -/
def verts (keep : List Bool) : List Int := idxs id keep
/-- How many kept ones are before a vertex. -/
def vrank (keep : List Bool) (v : Nat) : Nat := (verts (keep.take v)).length
def subArc (keep : List Bool) (x : Arc) : Arc := ⟨vrank keep x.src.toNat, vrank keep x.dst.toNat, x.wt⟩
def kin (keep : List Bool) (x : Arc) : Bool := keep.getD x.src.toNat false && keep.getD x.dst.toNat false
def subArcs (keep : List Bool) (l : List Arc) : List Arc := (l.filter (kin keep)).map (subArc keep)

theorem verts_all {keep : List Bool} {k : Nat} (h : keep.length ≤ k) : verts (keep.take k) = verts keep := by rw [List.take_of_length_le h]
theorem verts_yes {keep : List Bool} {k : Nat} (h : k < keep.length) (hk : keep[k] = true) : verts (keep.take (k + 1)) = verts (keep.take k) ++ [(k : Int)] := idxs_yes (p := id) h hk
theorem verts_no {keep : List Bool} {k : Nat} (h : k < keep.length) (hk : keep[k] = false) : verts (keep.take (k + 1)) = verts (keep.take k) := idxs_no (p := id) h hk
theorem verts_le (keep : List Bool) : (verts keep).length ≤ keep.length := by unfold verts; rw [idxs_length]; exact List.countP_le_length

theorem verts_take_le (keep : List Bool) (k : Nat) : (verts (keep.take k)).length ≤ k := Nat.le_trans (verts_le _) (List.length_take_le _ _)
/-- The map tells each kept vertex its number. -/
def Numbers (ents : List (Int × Value × Nat)) (keep : List Bool) (k : Nat) : Prop := ∀ j (h : j < keep.length), j < k → keep[j] = true → mget ents (j : Int) = some (.int .i64 (vrank keep j : Int))
theorem numbers_start (keep : List Bool) : Numbers [] keep 0 := fun j h hj => by omega
theorem numbers_yes {ents : List (Int × Value × Nat)} {keep : List Bool} {k c : Nat} (h : k < keep.length) (hn : Numbers ents keep k) (hk : keep[k] = true) : Numbers (mput ents (k : Int) (.int .i64 ((verts (keep.take k)).length : Int)) c) keep (k + 1) := fun j hj hjk hkj => by
  rw [mget_put]
  by_cases e : j = k
  · subst e; rw [if_pos rfl]; rfl
  · rw [if_neg (by omega)]; exact hn j hj (by omega) hkj
theorem numbers_no {ents : List (Int × Value × Nat)} {keep : List Bool} {k : Nat} (h : k < keep.length) (hn : Numbers ents keep k) (hk : keep[k] = false) : Numbers ents keep (k + 1) := fun j hj hjk hkj => by
  by_cases e : j = k
  · subst e; rw [hk] at hkj; cases hkj
  · exact hn j hj (by omega) hkj
theorem look_num {ents : List (Int × Value × Nat)} {keep : List Bool} (hn : ∀ (j : Nat) (h : j < keep.length), keep[j] = true → mget ents (j : Int) = some (.int .i64 (vrank keep j : Int))) {x : Int} (h0 : 0 ≤ x) (h : x.toNat < keep.length) (hk : keep[x.toNat] = true) {z : Value} :
    (mget ents x).getD z = .int .i64 (vrank keep x.toNat : Int) := by
  have := hn x.toNat h hk
  rw [show ((x.toNat : Nat) : Int) = x from by omega] at this
  rw [this]; rfl
theorem kin_get {keep : List Bool} {x : Arc} (h1 : x.src.toNat < keep.length) (h2 : x.dst.toNat < keep.length) : kin keep x = (keep[x.src.toNat] && keep[x.dst.toNat]) := by
  simp [kin, List.getD_eq_getElem?_getD, h1, h2]
theorem sub_yes {keep : List Bool} {l : List Arc} {k : Nat} (hk : k < l.length) (h : kin keep l[k] = true) : subArcs keep (l.take (k + 1)) = subArcs keep (l.take k) ++ [subArc keep l[k]] := by
  unfold subArcs; rw [List.take_succ_eq_append_getElem hk, List.filter_append, List.map_append]; simp [h]
theorem sub_no {keep : List Bool} {l : List Arc} {k : Nat} (hk : k < l.length) (h : kin keep l[k] = false) : subArcs keep (l.take (k + 1)) = subArcs keep (l.take k) := by
  unfold subArcs; rw [List.take_succ_eq_append_getElem hk, List.filter_append, List.map_append]; simp [h]
theorem sub_len (keep : List Bool) (l : List Arc) : (subArcs keep l).length ≤ l.length := by unfold subArcs; rw [List.length_map]; exact List.length_filter_le _ _
theorem idxs_len_le {α : Type} (p : α → Bool) (l : List α) : (idxs p l).length ≤ l.length := by rw [idxs_length]; exact List.countP_le_length
theorem sub_take_le (keep : List Bool) (l : List Arc) (k : Nat) : (subArcs keep (l.take k)).length ≤ k := Nat.le_trans (sub_len _ _) (List.length_take_le _ _)
theorem idxs_take_le {α : Type} (p : α → Bool) (l : List α) (k : Nat) : (idxs p (l.take k)).length ≤ k := Nat.le_trans (idxs_len_le _ _) (List.length_take_le _ _)
end Go.Proofs.Ytbjiejhdgkpjcaa

/- graph.Induced: the graph of some vertices. -/
namespace Go.Proofs.Ytbjiejhdgkpjcaa
open Go Go.RowKit Fly
set_option linter.unusedVariables false
set_option linter.unusedSimpArgs false


def InducedΦ (N : Int) (l : List Arc) (keep : List Bool) (u : Value) (own : List Seg) : Prop :=
  if (gcheck N l).2 ≠ 0 then u = .tuple #[.agg #[.int .i64 0, .slice none 0 0], .slice none 0 0, .slice none 0 0, .int .i64 (gcheck N l).2] ∧ own = []
  else if (keep.length : Int) ≠ N then u = .tuple #[.agg #[.int .i64 0, .slice none 0 0], .slice none 0 0, .slice none 0 0, .int .i64 4] ∧ own = []
  else if (verts keep).length = 0 then u = .tuple #[.agg #[.int .i64 0, .slice none 0 0], .slice none 0 0, .slice none 0 0, .int .i64 5] ∧ own = []
  else ∃ sa sv sl ma mv ml, u = .tuple #[.agg #[.int .i64 (verts keep).length, sa], sv, sl, .int .i64 0] ∧ own = [ma, mv, ml] ∧
    Own 55 3 sa (subArcs keep l).length ((subArcs keep l).flatMap arcCs) ma ∧ Own 3 1 sv (verts keep).length (ints (verts keep)) mv ∧ Own 3 1 sl (idxs (kin keep) l).length (ints (idxs (kin keep) l)) ml

end Go.Proofs.Ytbjiejhdgkpjcaa

/- Facts on regions: which vertices are in them. -/

namespace Go.Proofs.Ytbjiejhdgkpjcaa
open Go Fly
set_option linter.unusedVariables false
set_option linter.unusedSimpArgs false
set_option linter.unusedSectionVars false

structure RegOk (n : Nat) (l : List Arc) (c mn : Nat) (L : List Int) : Prop where
  is : L = (bfs n (fun v : Nat => nbrs (v : Int) l) c (List.replicate n false)).1.take mn
  c : c < n
  m : 1 ≤ mn ∧ mn ≤ 1024
  rng : ∀ x ∈ L, 0 ≤ x ∧ x < (n : Int)
  nd : L.Nodup
theorem reg_ok {N : Int} {l : List Arc} {c most : Int} (h : (regR N l c most).2 = 0) : (gcheck N l).2 = 0 ∧ ∃ n cn mn : Nat, N = (n : Int) ∧ c = (cn : Int) ∧ most = (mn : Int) ∧ RegOk n l cn mn (regR N l c most).1 := by
  unfold regR at h ⊢
  by_cases h1 : (gcheck N l).2 ≠ 0
  · rw [if_pos h1] at h; exact absurd h h1
  · by_cases h2 : c < 0 ∨ N ≤ c
    · rw [if_neg h1, if_pos h2] at h; cases h
    · by_cases h3 : most < 1 ∨ 1024 < most
      · rw [if_neg h1, if_neg h2, if_pos h3] at h; cases h
      · rw [if_neg h1, if_neg h2, if_neg h3]
        have hg : (gcheck N l).2 = 0 := by omega
        have hz := gcheck_zero hg
        obtain ⟨n, rfl⟩ : ∃ n : Nat, N = (n : Int) := ⟨N.toNat, by omega⟩
        have hI := BInv.go (nbrs_rngG hg).2 (BInv.start (n := n) (c := c.toNat) (b := List.replicate n false) (by simp) (by omega)) n
        refine ⟨hg, n, c.toNat, most.toNat, rfl, by omega, by omega, rfl, by omega, by omega, fun x hx => hI.rng x (List.mem_of_mem_take hx), ?_⟩
        exact hI.nd.sublist (List.take_sublist _ _)
theorem ringL_mem {l : List Arc} {M : List Int} {u : Int} : ∀ {m : Nat}, u ∈ ringL l M m ↔ ∃ v, v < m ∧ u = (v : Int) ∧ rgB l M v = true
  | 0 => by simp [ringL]
  | m + 1 => by
    have ih := ringL_mem (l := l) (M := M) (u := u) (m := m)
    unfold ringL
    by_cases h : rgB l M m = true
    · rw [if_pos h, List.mem_append, ih, List.mem_singleton]
      constructor
      · rintro (⟨v, h1, h2, h3⟩ | rfl)
        · exact ⟨v, by omega, h2, h3⟩
        · exact ⟨m, by omega, rfl, h⟩
      · rintro ⟨v, h1, h2, h3⟩
        rcases Nat.lt_or_ge v m with hv | hv
        · exact .inl ⟨v, hv, h2, h3⟩
        · exact .inr (by have : v = m := by omega
                         rw [h2, this])
    · rw [if_neg h, ih]
      constructor
      · rintro ⟨v, h1, h2, h3⟩; exact ⟨v, by omega, h2, h3⟩
      · rintro ⟨v, h1, h2, h3⟩
        rcases Nat.lt_or_ge v m with hv | hv
        · exact ⟨v, hv, h2, h3⟩
        · have : v = m := by omega
          subst this; exact absurd h3 h
theorem ringL_rising (l : List Arc) (M : List Int) : ∀ m, (ringL l M m).Pairwise (· < ·)
  | 0 => List.Pairwise.nil
  | m + 1 => by
    unfold ringL
    split
    · rw [List.pairwise_append]
      refine ⟨ringL_rising l M m, by simp, fun a ha b hb => ?_⟩
      simp only [List.mem_singleton] at hb
      obtain ⟨v, hv, rfl, _⟩ := ringL_mem.1 ha
      omega
    · exact ringL_rising l M m
theorem ringL_nodup (l : List Arc) (M : List Int) (m : Nat) : (ringL l M m).Nodup := (ringL_rising l M m).imp fun {a b} h e => by omega
theorem ring_reg {n : Nat} {l : List Arc} {M : List Int} (hg : (gcheck (n : Int) l).2 = 0) (hr : ∀ x ∈ M, 0 ≤ x ∧ x < (n : Int)) (hn : M.Nodup) : ringR (n : Int) l M = (ringL l M n, 0) := by
  have hl := ints_card hr hn
  have hz := gcheck_zero hg
  unfold ringR
  rw [if_neg (by rw [hg]; simp), if_neg (by omega), if_neg, if_neg (by simpa using hn), Int.toNat_natCast]
  rw [Bool.not_eq_true, List.any_eq_false]
  intro x hx
  have := hr x hx
  unfold offV; simp; omega
theorem not_take_of_nodup {M : List Int} {k : Nat} (hk : k < M.length) (h : M.Nodup) : M[k] ∉ M.take k := fun hm => nodup_not hk hm h
end Go.Proofs.Ytbjiejhdgkpjcaa

/- Labels: which are right, how many there are of each, pairs between them. -/

namespace Go.Proofs.Ytbjiejhdgkpjcaa
open Go Fly
set_option linter.unusedVariables false
set_option linter.unusedSimpArgs false
set_option linter.unusedSectionVars false

/-- The labels behind n that have come. -/
def rgo : Int → List Int → Bool
  | _, [] => true
  | n, l :: r => if l < 0 ∨ n < l then false else rgo (if l = n then n + 1 else n) r
def rightB (N : Int) (L : List Int) : Bool := rgo 0 L && decide ((L.length : Int) = N)
theorem rgo_drop {L : List Int} {k : Nat} (hk : k < L.length) (n : Int) : rgo n (L.drop k) = if L[k] < 0 ∨ n < L[k] then false else rgo (if L[k] = n then n + 1 else n) (L.drop (k + 1)) := by
  rw [← List.getElem_cons_drop hk]; rfl
theorem rgo_end {L : List Int} {k : Nat} (hk : L.length ≤ k) (n : Int) : rgo n (L.drop k) = true := by
  rw [List.drop_eq_nil_of_le hk]; rfl
theorem rgo_pos : ∀ {L : List Int} {n : Int}, rgo n L = true → ∀ x ∈ L, 0 ≤ x
  | [], _, _, x, hx => by cases hx
  | l :: r, n, h, x, hx => by
    unfold rgo at h
    split at h
    · cases h
    · rcases List.mem_cons.1 hx with rfl | hx
      · omega
      · exact rgo_pos h x hx
theorem rgo_lt : ∀ {L : List Int} {n : Int}, rgo n L = true → ∀ x ∈ L, x < n + L.length
  | [], _, _, x, hx => by cases hx
  | l :: r, n, h, x, hx => by
    unfold rgo at h
    split at h
    · cases h
    · rcases List.mem_cons.1 hx with rfl | hx
      · simp only [List.length_cons]; omega
      · have := rgo_lt h x hx
        simp only [List.length_cons]
        split at this <;> omega

/-- Whether a pair is between two labels. -/
def apart (L : List Int) (p : Pr) : Bool := decide (L.getD p.1.toNat 0 ≠ L.getD p.2.toNat 0)
/-- How many pairs are between labels. -/
def cutN (n : Nat) (l : List Arc) (L : List Int) : Nat := ((prs n l).filter (apart L)).length
def lcount (N : Int) (l : List Arc) (L : List Int) : Int × Int :=
  if (gcheck N l).2 ≠ 0 then (0, (gcheck N l).2) else if rightB N L = false then (0, 80) else ((cutN N.toNat l L : Int), 0)
theorem prs_rng {n : Nat} {l : List Arc} {p : Pr} (h : p ∈ prs n l) : (0 ≤ p.1 ∧ p.1 < n) ∧ 0 ≤ p.2 ∧ p.2 < n := mem_allP.1 (List.mem_filter.1 h).1
theorem prs_len {n : Nat} (hn : n ≤ 1024) (l : List Arc) : (prs n l).length ≤ 1048576 := by
  unfold prs
  refine Nat.le_trans (List.length_filter_le _ _) ?_
  rw [allP_len]
  exact Nat.le_trans (Nat.mul_le_mul hn hn) (by decide)
theorem filt_len_next {α : Type} {q : α → Bool} {l : List α} {i : Nat} (hi : i < l.length) : ((l.take (i + 1)).filter q).length = ((l.take i).filter q).length + (if q l[i] then 1 else 0) := by
  rw [List.take_succ_eq_append_getElem hi, List.filter_append, List.length_append]
  congr 1
  by_cases h : q l[i] <;> simp [h]

/-- The greatest of some numbers. -/
def maxL (L : List Int) : Int := L.foldl max (L.headD 0)
theorem max_next {L : List Int} {k : Nat} (hk : k < L.length) : (L.take (k + 1)).foldl max (L.headD 0) = max ((L.take k).foldl max (L.headD 0)) L[k] := by
  rw [List.take_succ_eq_append_getElem hk, List.foldl_append]; rfl
theorem max_one {L : List Int} (h : 0 < L.length) : (L.take 1).foldl max (L.headD 0) = L[0] := by
  cases L with
  | nil => simp at h
  | cons x r => simp
theorem foldl_max_ge : ∀ (L : List Int) (a : Int), a ≤ L.foldl max a ∧ ∀ x ∈ L, x ≤ L.foldl max a
  | [], a => ⟨Int.le_refl _, fun x hx => by cases hx⟩
  | y :: L, a => by
    obtain ⟨h1, h2⟩ := foldl_max_ge L (max a y)
    simp only [List.foldl_cons]
    refine ⟨by omega, fun x hx => ?_⟩
    rcases List.mem_cons.1 hx with rfl | hx
    · omega
    · exact h2 x hx
theorem foldl_max_le : ∀ (L : List Int) (a b : Int), a ≤ b → (∀ x ∈ L, x ≤ b) → L.foldl max a ≤ b
  | [], a, b, h, _ => h
  | y :: L, a, b, h, hx => foldl_max_le L (max a y) b (by have := hx y (by simp); omega) fun x hm => hx x (by simp [hm])
theorem le_maxL {L : List Int} {x : Int} (h : x ∈ L) : x ≤ maxL L := (foldl_max_ge L _).2 x h
theorem maxL_le {L : List Int} {b : Int} (h0 : 0 < L.length) (h : ∀ x ∈ L, x ≤ b) : maxL L ≤ b := by
  refine foldl_max_le L _ b ?_ h
  cases L with
  | nil => simp at h0
  | cons x r => exact h x (by simp)

/-- How many there are of a label. -/
def cnt (L : List Int) (j : Nat) : Nat := (L.filter fun x => decide (x = Int.ofNat j)).length
def szs (M : Nat) (L : List Int) : List Int := (List.range M).map fun j => (cnt L j : Int)
theorem szs_len (M : Nat) (L : List Int) : (szs M L).length = M := by simp [szs]
theorem szs_get {M : Nat} {L : List Int} {j : Nat} (h : j < M) : (szs M L)[j]'(by rw [szs_len]; exact h) = (cnt L j : Int) := by simp [szs]
theorem szs_nil (M : Nat) : szs M [] = List.replicate M 0 := by
  apply List.ext_getElem (by simp [szs])
  intro i h1 h2
  rw [szs_get (by simpa [szs] using h1)]; simp [cnt]
theorem cnt_next {L : List Int} {k : Nat} (hk : k < L.length) (j : Nat) : cnt (L.take (k + 1)) j = cnt (L.take k) j + (if L[k] = Int.ofNat j then 1 else 0) := by
  unfold cnt; rw [filt_len_next hk]; simp
theorem szs_next {M : Nat} {L : List Int} {k v : Nat} (hk : k < L.length) (hv : L[k] = (v : Int)) (hM : v < M) : szs M (L.take (k + 1)) = (szs M (L.take k)).set v ((cnt (L.take k) v : Int) + 1) := by
  apply List.ext_getElem (by simp [szs])
  intro i h1 h2
  have hi : i < M := by simpa [szs] using h1
  rw [szs_get hi, List.getElem_set]
  rw [cnt_next hk, hv]
  by_cases e : v = i
  · subst e; simp
  · have e' : ¬ ((v : Int) = Int.ofNat i) := by show ¬ ((v : Int) = (i : Int)); omega
    simp only [if_neg e, if_neg e', szs_get hi, Nat.add_zero]
theorem cnt_le (L : List Int) (j : Nat) : cnt L j ≤ L.length := List.length_filter_le _ _
/-- The sizes of labels. -/
def sizesL (L : List Int) : List Int := szs (maxL L + 1).toNat L
end Go.Proofs.Ytbjiejhdgkpjcaa
