/- slices.Compact, slices.Clip over numbers. -/
import Derived.Test.YtkmkakpadgljeaaFlyT
import Derived.Test.YtkmkakpadgljeaaPCpt
namespace Go.Proofs.Ytkmkakpadgljeaa
open Go Go.RowKit Fly
set_option linter.unusedVariables false
set_option linter.unusedSimpArgs false


theorem ints_zero {d : List Int} {i : Nat} (hi : i ≤ d.length) (sp : List Value) : setMany (ints d ++ sp) i (List.replicate (d.length - i) [Value.int .i64 0]).flatten = ints (d.take i) ++ (ints (List.replicate (d.length - i) 0) ++ sp) := by
  have e : ints d ++ sp = ints (d.take i) ++ (ints (d.drop i) ++ sp) := by rw [← List.append_assoc, ← ints_append, List.take_append_drop]
  have e2 : (List.replicate (d.length - i) [Value.int .i64 0]).flatten = ints (List.replicate (d.length - i) 0) := by
    generalize d.length - i = q
    induction q with
    | zero => rfl
    | succ q ih => simp only [List.replicate_succ, List.flatten_cons, ih]; rfl
  rw [e, e2]
  exact setMany_append _ _ _ _ _ (by rw [ints_length, List.length_take, Nat.min_eq_left hi]) (by rw [ints_length, ints_length]; simp)
theorem intsG {l : List Int} {i : Nat} (h : i < l.length) {x : Int} (e : l[i] = x) : (ints l)[i]? = some (.int .i64 x) := by rw [ints_get h, e]
theorem cpt_put {l d : List Int} {i j : Nat} (hj : j < l.length) (hij : i < j) (hd : d.length = l.length) (h0 : d.take i = cpt (l.take j)) (hdr : d.drop (j - 1) = l.drop (j - 1)) (hne : l[j] ≠ l[j - 1]'(by omega)) :
    (d.set i l[j]).take (i + 1) = cpt (l.take (j + 1)) ∧ (d.set i l[j]).drop j = l.drop j := by
  refine ⟨?_, ?_⟩
  · rw [cpt_next (by omega) hj, if_neg (fun e => hne e.symm), ← h0, List.take_succ_eq_append_getElem (show i < (d.set i l[j]).length by simp; omega), List.getElem_set_self, List.take_set_of_le (Nat.le_refl _)]
  · rw [List.drop_set_of_lt hij]
    have := congrArg (List.drop 1) hdr
    rw [List.drop_drop, List.drop_drop, show j - 1 + 1 = j by omega] at this
    exact this
theorem cpt_pass {l d : List Int} {i j : Nat} (hj : j < l.length) (hj0 : 0 < j) (h0 : d.take i = cpt (l.take j)) (hdr : d.drop (j - 1) = l.drop (j - 1)) (he : l[j] = l[j - 1]'(by omega)) : d.take i = cpt (l.take (j + 1)) ∧ d.drop j = l.drop j := by
  refine ⟨by rw [cpt_next hj0 hj, if_pos he.symm]; exact h0, ?_⟩
  have := congrArg (List.drop 1) hdr
  rw [List.drop_drop, List.drop_drop, show j - 1 + 1 = j by omega] at this
  exact this
theorem drop_get {l d : List Int} {i j : Nat} (hd : d.length = l.length) (h : d.drop i = l.drop i) (hij : i ≤ j) (hj : j < l.length) : d[j]'(by omega) = l[j] := by
  have := congrArg (fun x => x[j - i]?) h
  simp only [List.getElem?_drop, show i + (j - i) = j by omega] at this
  rw [List.getElem?_eq_getElem (by omega), List.getElem?_eq_getElem hj] at this
  exact Option.some.inj this

set_option maxRecDepth 100000 in
set_option maxHeartbeats 4000000 in
theorem Compact_spec (A : Option Addr) (cap : Nat) (l : List Int) (m : Seg) (w : World) (ho : Own 3 1 (.slice A l.length cap) l.length (ints l) m) (hl : l.length ≤ 1000000000) (hw : Owns w [m]) :
    Meets Try.prog 35 [.slice A l.length cap] w [m] (fun u own' => ∃ m', own' = [m'] ∧ Own 3 1 u (cpt l).length (ints (cpt l)) m') := by
 refine f_enter Try.func35 rfl Try.ntmps35 rfl hw ?_
 refine f_seq fun K1 kh1 => ?_
 refine f_region ?_
 refine f_stepP rfl rfl rfl (o_assign rfl) ?_
 refine f_done ?_
 refine f_tn (kh1 _ _ ?_)
 clear kh1
 refine f_seq fun K2 kh2 => ?_
 refine f_seq fun K3 kh3 => ?_
 refine f_region ?_
 refine f_stepP rfl rfl rfl (o_move rfl) ?_
 refine f_stepP rfl rfl rfl (o_len sl25 rfl) ?_
 refine f_stepP rfl rfl rfl (o_lss rfl rfl) ?_
 refine f_done ?_
 refine f_tn (kh3 _ _ ?_)
 clear kh3
 refine f_cond rfl (fun c8 => ?_) (fun c8 => ?_)
 ·
  have hcl : cpt l = l := by
    match l, c8 with
    | [], _ => rfl
    | [x], _ => rfl
    | x :: y :: r, h => simp at h; omega
  refine f_seq fun K4 kh4 => ?_
  refine f_region ?_
  refine f_stepP rfl rfl rfl (o_move rfl) ?_
  refine f_stepP rfl rfl rfl (o_assign rfl) ?_
  refine f_done ?_
  refine f_tn (kh4 _ _ ?_)
  clear kh4
  refine f_ret ?_
  refine f_tr ?_
  exact f_fin1 [m] Try.results35 rfl (Sub.pick Sub.nil) ⟨m, rfl, by rw [hcl]; exact ho⟩
 ·
  obtain ⟨b, sp, rfl, rfl, hup⟩ := ho.upd (by omega)
  obtain ⟨_, _, e_, hcap⟩ := ho.val
  cases e_
  have hspl : sp.length = cap - l.length := by
    obtain ⟨_, h | ⟨b', c', sp', e, hm, _, _, h3⟩⟩ := ho
    · omega
    · cases e
      have := List.append_cancel_left (Array.toList_inj.2 (show (ints l ++ sp).toArray = (ints l ++ sp').toArray by simpa using hm))
      rw [this]; omega
  refine f_skip ?_
  refine f_tn (kh2 _ _ ?_)
  clear kh2
  refine f_seq fun K5 kh5 => ?_
  refine f_seq fun K6 kh6 => ?_
  refine f_region ?_
  refine f_stepP rfl rfl rfl (o_assign rfl) ?_
  refine f_done ?_
  refine f_tn (kh6 _ _ ?_)
  clear kh6
  refine f_block ?_
  refine f_loopK (α := Nat) [0] (fun k => [(3, .int .i64 (k : Int))]) (fun k => 1 ≤ k ∧ k ≤ l.length ∧ cpt (l.take k) = l.take k) (fun k => l.length - k) (1) ?_ ?_ ?_
  · exact (by repeat (first | exact trivial | refine ⟨rfl, ?_⟩))
  · exact ⟨Nat.le_refl _, by omega, cpt_one (by omega)⟩
  ·
   rintro k ⟨hk1, hkl, hck⟩
   refine f_seq fun K7 kh7 => ?_
   refine f_seq fun K8 kh8 => ?_
   refine f_region ?_
   refine f_stepP rfl rfl rfl (o_move rfl) ?_
   refine f_stepP rfl rfl rfl (o_move rfl) ?_
   refine f_stepP rfl rfl rfl (o_len sl25 rfl) ?_
   refine f_stepP rfl rfl rfl (o_lss rfl rfl) ?_
   refine f_done ?_
   refine f_tn (kh8 _ _ ?_)
   clear kh8
   refine f_cond rfl (fun c13 => ?_) (fun c13 => ?_)
   ·
    refine f_skip ?_
    refine f_tn (kh7 _ _ ?_)
    clear kh7
    refine f_seq fun K9 kh9 => ?_
    refine f_block ?_
    refine f_seq fun K10 kh10 => ?_
    refine f_regionS rfl (by decide +kernel) ?_
    refine f_stillP rfl rfl rfl (o_move rfl) ?_
    refine f_stillP rfl rfl rfl (o_move rfl) ?_
    have hk : k < l.length := by omega
    refine f_stillP rfl rfl rfl (o_idx sl25 rfl rfl (k) ⟨by omega, by omega, by first | omega | (simp; done) | (simp; omega)⟩) ?_
    refine f_stillP rfl rfl rfl (o_load Try.isAgg3 rfl (rdA (app_get (ints_get hk)))) ?_
    refine f_stillP rfl rfl rfl (o_move rfl) ?_
    refine f_stillP rfl rfl rfl (o_move rfl) ?_
    refine f_stillP rfl rfl rfl (o_sub rfl rfl _ (wrap_i64 (by omega))) ?_
    refine f_stillP rfl rfl rfl (o_idx sl25 rfl rfl (k - 1) ⟨by omega, by omega, by first | omega | (simp; done) | (simp; omega)⟩) ?_
    refine f_stillP rfl rfl rfl (o_load Try.isAgg3 rfl (rdA (app_get (ints_get (by omega))))) ?_
    refine f_stillP rfl rfl rfl (o_eql rfl rfl) ?_
    refine f_stillD ?_
    refine f_tn (kh10 _ _ ?_)
    clear kh10
    refine f_cond rfl (fun c25 => ?_) (fun c25 => ?_)
    ·
     refine f_seq fun K11 kh11 => ?_
     refine f_region ?_
     refine f_stepP rfl rfl rfl (o_move rfl) ?_
     refine f_stepP rfl rfl rfl (o_move rfl) ?_
     refine f_stepP rfl rfl rfl (o_slice sl25 rfl rfl rfl rfl (fun h => by cases h) k _ _ (.inr ⟨_, _, rfl, by omega⟩) (.inl ⟨rfl, rfl⟩) (.inl ⟨rfl, rfl⟩) ⟨by omega, by omega, by omega⟩ (.slice (some ⟨b, k, none⟩) (l.length - k) (cap - k)) (by rw [if_neg (by omega)]; simp [add_at])) ?_
     refine f_stepP rfl rfl rfl (o_assign rfl) ?_
     refine f_done ?_
     refine f_tn (kh11 _ _ ?_)
     clear kh11
     refine f_seq fun K12 kh12 => ?_
     refine f_seq fun K13 kh13 => ?_
     refine f_region ?_
     refine f_stepP rfl rfl rfl (o_assign rfl) ?_
     refine f_done ?_
     refine f_tn (kh13 _ _ ?_)
     clear kh13
     refine f_block ?_
     refine f_loop (α := Nat × Nat × List Int) [0, 4] (fun ⟨q, i, d⟩ => [(5, .int .i64 (q : Int)), (3, .int .i64 (i : Int))]) (fun ⟨q, i, d⟩ => [[(b, blk (ints d ++ sp) 3)]]) (fun ⟨q, i, d⟩ => 1 ≤ q ∧ k + q ≤ l.length ∧ i < k + q ∧ d.length = l.length ∧ d.take i = cpt (l.take (k + q)) ∧ d.drop (k + q - 1) = l.drop (k + q - 1)) (fun ⟨q, i, d⟩ => l.length - (k + q)) (1, k, l) ?_ ?_ ?_ ?_
     · exact (by repeat (first | exact trivial | refine ⟨rfl, ?_⟩))
     · repeat (first | exact Sub.nil | refine Sub.pick ?_ | refine Sub.castO rfl ?_ | refine Sub.skip ?_)
     · exact ⟨Nat.le_refl _, by omega, by omega, rfl, by rw [cpt_next (by omega) hk, if_pos c25.symm, hck], rfl⟩
     ·
      rintro ⟨q, i, d⟩ ⟨hq1, hql, hik, hdl, hdt, hdd⟩
      refine f_envC (e := [(5, _), (3, _), (0, _), (4, _)]) (by repeat (first | exact trivial | refine ⟨rfl, ?_⟩)) ?_
      refine f_seq fun K14 kh14 => ?_
      refine f_seq fun K15 kh15 => ?_
      refine f_region ?_
      refine f_stepP rfl rfl rfl (o_move rfl) ?_
      refine f_stepP rfl rfl rfl (o_move rfl) ?_
      refine f_stepP rfl rfl rfl (o_len sl25 rfl) ?_
      refine f_stepP rfl rfl rfl (o_lss rfl rfl) ?_
      refine f_done ?_
      refine f_tn (kh15 _ _ ?_)
      clear kh15
      refine f_cond rfl (fun c32 => ?_) (fun c32 => ?_)
      ·
       refine f_skip ?_
       refine f_tn (kh14 _ _ ?_)
       clear kh14
       refine f_seq fun K16 kh16 => ?_
       refine f_block ?_
       refine f_seq fun K17 kh17 => ?_
       have hj' : k + q < l.length := by omega
       have hd1 := drop_get hdl hdd (j := k + q) (by omega) hj'
       have hd2 := drop_get hdl hdd (j := k + q - 1) (Nat.le_refl _) (by omega)
       refine f_regionS rfl (by decide +kernel) ?_
       refine f_stillP rfl rfl rfl (o_move rfl) ?_
       refine f_stillP rfl rfl rfl (o_move rfl) ?_
       refine f_stillP rfl rfl rfl (o_idx sl25 rfl rfl (k + q) ⟨by omega, by omega, by first | omega | (simp; done) | (simp; omega)⟩) ?_
       refine f_stillP rfl rfl rfl (o_load Try.isAgg3 rfl (rdA (app_get (intsG (by omega) hd1)))) ?_
       refine f_stillP rfl rfl rfl (o_move rfl) ?_
       refine f_stillP rfl rfl rfl (o_move rfl) ?_
       refine f_stillP rfl rfl rfl (o_sub rfl rfl _ (wrap_i64 (by omega))) ?_
       refine f_stillP rfl rfl rfl (o_idx sl25 rfl rfl (k + q - 1) ⟨by omega, by omega, by first | omega | (simp; done) | (simp; omega)⟩) ?_
       refine f_stillP rfl rfl rfl (o_load Try.isAgg3 rfl (rdA (app_get (intsG (by omega) hd2)))) ?_
       refine f_stillP rfl rfl rfl (o_neq rfl rfl) ?_
       refine f_stillD ?_
       refine f_tn (kh17 _ _ ?_)
       clear kh17
       refine f_cond rfl (fun c44 => ?_) (fun c44 => ?_)
       ·
        refine f_seq fun K18 kh18 => ?_
        refine f_region ?_
        refine f_stepP rfl rfl rfl (o_move rfl) ?_
        refine f_stepP rfl rfl rfl (o_move rfl) ?_
        refine f_stepP rfl rfl rfl (o_move rfl) ?_
        refine f_stepP rfl rfl rfl (o_move rfl) ?_
        refine f_stepP rfl rfl rfl (o_idx sl25 rfl rfl (k + q) ⟨by omega, by omega, by first | omega | (simp; done) | (simp; omega)⟩) ?_
        refine f_stepP rfl rfl rfl (o_load Try.isAgg3 rfl (rdA (app_get (intsG (by omega) hd1)))) ?_
        refine f_stepP rfl rfl rfl (o_idx sl25 rfl rfl (i) ⟨by omega, by omega, by first | omega | (simp; done) | (simp; omega)⟩) ?_
        refine f_step0 rfl rfl (o_store Try.sizeOf3 rfl rfl rfl rfl (by rw [List.length_append, ints_length]; omega) (ints (d.set i l[k + q]) ++ sp) (by rw [List.set_append_left _ _ (by rw [ints_length]; omega)]; simp [ints, List.map_set]) ?_)
        refine f_done ?_
        refine f_tn (kh18 _ _ ?_)
        clear kh18
        refine f_region ?_
        refine f_stepP rfl rfl rfl (o_move rfl) ?_
        refine f_stepP rfl rfl rfl (o_add rfl rfl _ (wrap_i64 (by omega))) ?_
        refine f_stepP rfl rfl rfl (o_assign rfl) ?_
        refine f_done ?_
        refine f_bn ?_
        refine f_tn (kh16 _ _ ?_)
        clear kh16
        refine f_region ?_
        refine f_stepP rfl rfl rfl (o_move rfl) ?_
        refine f_stepP rfl rfl rfl (o_add rfl rfl _ (wrap_i64 (by omega))) ?_
        refine f_stepP rfl rfl rfl (o_assign rfl) ?_
        refine f_done ?_
        refine f_tn (f_again (q + 1, i + 1, d.set i l[k + q]) (by first | omega | (dsimp only; omega) | (simp; omega)) ⟨by omega, by omega, by omega, by simpa using hdl, (cpt_put hj' hik hdl hdt hdd (by omega)).1, (cpt_put hj' hik hdl hdt hdd (by omega)).2⟩ ?_ ?_ ?_)
        · exact (by repeat (first | exact trivial | refine ⟨rfl, ?_⟩))
        · exact (by repeat (first | exact trivial | refine ⟨rfl, ?_⟩))
        · repeat (first | exact Sub.nil | refine Sub.pick ?_ | refine Sub.castO rfl ?_ | refine Sub.skip ?_)
       ·
        refine f_skip ?_
        refine f_bn ?_
        refine f_tn (kh16 _ _ ?_)
        clear kh16
        refine f_region ?_
        refine f_stepP rfl rfl rfl (o_move rfl) ?_
        refine f_stepP rfl rfl rfl (o_add rfl rfl _ (wrap_i64 (by omega))) ?_
        refine f_stepP rfl rfl rfl (o_assign rfl) ?_
        refine f_done ?_
        refine f_tn (f_again (q + 1, i, d) (by first | omega | (dsimp only; omega) | (simp; omega)) ⟨by omega, by omega, by omega, hdl, (cpt_pass hj' (by omega) hdt hdd (by omega)).1, (cpt_pass hj' (by omega) hdt hdd (by omega)).2⟩ ?_ ?_ ?_)
        · exact (by repeat (first | exact trivial | refine ⟨rfl, ?_⟩))
        · exact (by repeat (first | exact trivial | refine ⟨rfl, ?_⟩))
        · repeat (first | exact Sub.nil | refine Sub.pick ?_ | refine Sub.castO rfl ?_ | refine Sub.skip ?_)
      ·
       refine f_exit ?_
       refine f_te ?_
       clear kh14
       refine f_te ?_
       refine f_be ?_
       refine f_tn (kh12 _ _ ?_)
       clear kh12
       refine f_seq fun K19 kh19 => ?_
       obtain rfl : q = l.length - k := by omega
       rw [show k + (l.length - k) = l.length by omega, List.take_length] at hdt
       have hiL : (cpt l).length = i := by rw [← hdt]; simp; omega
       refine f_region ?_
       refine f_stepP rfl rfl rfl (o_move rfl) ?_
       refine f_stepP rfl rfl rfl (o_move rfl) ?_
       refine f_stepP rfl rfl rfl (o_slice sl25 rfl rfl rfl rfl (fun h => by cases h) i _ _ (.inr ⟨_, _, rfl, by omega⟩) (.inl ⟨rfl, rfl⟩) (.inl ⟨rfl, rfl⟩) ⟨by omega, by omega, by omega⟩ (.slice (some ⟨b, i, none⟩) (l.length - i) (cap - i)) (by rw [if_neg (by omega)]; simp [add_at])) ?_
       refine f_step0 rfl rfl (o_clear el25 rfl rfl (by rw [List.length_append, ints_length]; omega) (ints (d.take i) ++ (ints (List.replicate (d.length - i) 0) ++ sp)) (by rw [← hdl]; exact ints_zero (by omega) sp) ?_)
       refine f_done ?_
       refine f_tn (kh19 _ _ ?_)
       clear kh19
       refine f_seq fun K20 kh20 => ?_
       refine f_region ?_
       refine f_stepP rfl rfl rfl (o_move rfl) ?_
       refine f_stepP rfl rfl rfl (o_move rfl) ?_
       refine f_stepP rfl rfl rfl (o_slice sl25 rfl rfl rfl rfl (fun h => by cases h) 0 i cap (.inl ⟨rfl, rfl⟩) (.inr ⟨_, _, rfl, by omega⟩) (.inl ⟨rfl, rfl⟩) ⟨by omega, by omega, by omega⟩ (.slice (some ⟨b, 0, none⟩) i cap) (by rw [if_neg (by omega)]; simp [add_at])) ?_
       refine f_stepP rfl rfl rfl (o_assign rfl) ?_
       refine f_done ?_
       refine f_tn (kh20 _ _ ?_)
       clear kh20
       refine f_ret ?_
       refine f_br ?_
       refine f_tr ?_
       refine f_tr ?_
       refine f_br ?_
       refine f_tr ?_
       exact f_fin1 [[(b, blk (ints (d.take i) ++ (ints (List.replicate (d.length - i) 0) ++ sp)) 3)]] Try.results35 rfl (by repeat (first | exact Sub.nil | refine Sub.pick ?_)) ⟨_, rfl, by rw [hiL, ← hdt]; exact ⟨by rw [ints_length]; simp; omega, .inr ⟨b, cap, _, rfl, rfl, by omega, by omega, by rw [List.length_append, ints_length, List.length_replicate, hspl]; omega⟩⟩⟩
    ·
     refine f_skip ?_
     refine f_bn ?_
     refine f_tn (kh9 _ _ ?_)
     clear kh9
     refine f_region ?_
     refine f_stepP rfl rfl rfl (o_move rfl) ?_
     refine f_stepP rfl rfl rfl (o_add rfl rfl _ (wrap_i64 (by omega))) ?_
     refine f_stepP rfl rfl rfl (o_assign rfl) ?_
     refine f_done ?_
     refine f_tn (f_again (k + 1) (by first | omega | (dsimp only; omega) | (simp; omega)) ⟨by omega, by omega, by rw [cpt_next (by omega) hk, if_neg (fun e => c25 e.symm), hck, ← List.take_succ_eq_append_getElem hk]⟩ ?_ ?_ ?_)
     · exact (by repeat (first | exact trivial | refine ⟨rfl, ?_⟩))
     · exact (by repeat (first | exact trivial | refine ⟨rfl, ?_⟩))
     · repeat (first | exact Sub.nil | refine Sub.pick ?_ | refine Sub.castO rfl ?_ | refine Sub.skip ?_)
   ·
    refine f_exit ?_
    refine f_te ?_
    clear kh7
    refine f_te ?_
    refine f_be ?_
    refine f_tn (kh5 _ _ ?_)
    clear kh5
    refine f_seq fun K21 kh21 => ?_
    refine f_region ?_
    refine f_stepP rfl rfl rfl (o_move rfl) ?_
    refine f_stepP rfl rfl rfl (o_assign rfl) ?_
    refine f_done ?_
    refine f_tn (kh21 _ _ ?_)
    clear kh21
    refine f_ret ?_
    have hcl : cpt l = l := by rw [List.take_of_length_le (by omega)] at hck; exact hck
    exact f_fin1 [[(b, blk (ints l ++ sp) 3)]] Try.results35 rfl (by repeat (first | exact Sub.nil | refine Sub.pick ?_)) ⟨_, rfl, by rw [hcl]; exact ho⟩

set_option maxRecDepth 100000 in
set_option maxHeartbeats 4000000 in
theorem Clip_spec (A : Option Addr) (len cap : Nat) (w : World) (h : len ≤ cap) (hm : cap ≤ 9223372036854775807) (hA : A = none → len = 0) :
    Meets Try.prog 50 [.slice A len cap] w [] (fun u m => u = .slice A len len ∧ m = []) := by
 refine f_enter Try.func50 rfl Try.ntmps50 rfl Owns.nil ?_
 refine f_seq fun K1 kh1 => ?_
 refine f_region ?_
 refine f_stepP rfl rfl rfl (o_assign rfl) ?_
 refine f_done ?_
 refine f_tn (kh1 _ _ ?_)
 clear kh1
 refine f_seq fun K2 kh2 => ?_
 refine f_region ?_
 refine f_stepP rfl rfl rfl (o_move rfl) ?_
 refine f_stepP rfl rfl rfl (o_move rfl) ?_
 refine f_stepP rfl rfl rfl (o_len sl25 rfl) ?_
 refine f_stepP rfl rfl rfl (o_move rfl) ?_
 refine f_stepP rfl rfl rfl (o_len sl25 rfl) ?_
 refine f_stepP rfl rfl rfl (o_slice sl25 rfl rfl rfl rfl (fun _ => rfl) 0 len len (.inl ⟨rfl, rfl⟩) (.inr ⟨_, _, rfl, by omega⟩) (.inr ⟨_, _, rfl, by omega⟩) ⟨by omega, by omega, by omega⟩ (.slice A len len) (by rw [Nat.sub_zero]; congr 1; split; rfl; cases A with | none => rfl | some x => obtain ⟨p, q, r⟩ := x; cases r <;> simp [Addr.add])) ?_
 refine f_stepP rfl rfl rfl (o_assign rfl) ?_
 refine f_done ?_
 refine f_tn (kh2 _ _ ?_)
 clear kh2
 refine f_ret ?_
 exact f_fin1 [] Try.results50 rfl Sub.nil ⟨rfl, rfl⟩

end Go.Proofs.Ytkmkakpadgljeaa
