/- The document's net: letters. -/
import Derived.Test.YtbkneamjpiiepaaFNet2
import Derived.Test.YtbkneamjpiiepaaPNetR
namespace Go.Proofs.Ytbkneamjpiiepaa
open Go Go.RowKit Fly
set_option linter.unusedVariables false
set_option linter.unusedSimpArgs false


structure RAt (R : NetR) (uv lv tv : Value) (mu ml mt : Seg) : Prop where
  up : Own 4 1 uv R.up.length (bools R.up) mu
  lts : Own 89 3 lv R.lts.length (R.lts.flatMap ltCs) ml
  tim : Own 41 3 tv R.tim.length (R.tim.flatMap timCs) mt
  ltl : R.lts.length ≤ 1000000
  upl : R.up.length ≤ 65
  timl : R.tim.length ≤ 16384
  clk : 0 ≤ R.clk ∧ R.clk ≤ 1073741824
abbrev rSegs (R : NetR) (bn : Nat) (uv lv tv : Value) (mu ml mt : Seg) : List Seg := [[(bn, blk [uv, lv, tv, .int .i64 R.clk] 78)], mu, ml, mt]
/-- The document's net in memory. -/
def RNet (R : NetR) (bn : Nat) (m : Seg) : Prop := ∃ uv lv tv mu ml mt, m.Perm (rSegs R bn uv lv tv mu ml mt).flatten ∧ RAt R uv lv tv mu ml mt
theorem RNet.mk {R : NetR} {bn : Nat} {uv lv tv : Value} {mu ml mt : Seg} (h : RAt R uv lv tv mu ml mt) : RNet R bn (rSegs R bn uv lv tv mu ml mt).flatten := ⟨uv, lv, tv, mu, ml, mt, List.Perm.refl _, h⟩
theorem RNet.lens {R : NetR} {bn : Nat} {m : Seg} (h : RNet R bn m) : R.lts.length ≤ 1000000 ∧ R.up.length ≤ 65 ∧ R.tim.length ≤ 16384 := by
  obtain ⟨uv, lv, tv, mu, ml, mt, _, hA⟩ := h
  exact ⟨hA.ltl, hA.upl, hA.timl⟩
theorem RAt.put {R : NetR} {uv lv tv : Value} {mu ml mt : Seg} (h : RAt R uv lv tv mu ml mt) {l : List Lt} {lv' : Value} {ml' : Seg} (ho : Own 89 3 lv' l.length (l.flatMap ltCs) ml') (hl : l.length ≤ 1000000) : RAt { R with lts := l } uv lv' tv mu ml' mt :=
  ⟨h.up, ho, h.tim, hl, h.upl, h.timl, h.clk⟩
abbrev nats (l : List Nat) : List Int := l.map Int.ofNat
theorem up_at {R : NetR} {v : Int} (h : v.toNat < R.up.length) : R.isUp v = R.up[v.toNat] := by simp [NetR.isUp, h]
theorem nats_get {l : List Nat} {k : Nat} (h : k < l.length) : (ints (nats l))[k]? = some (.int .i64 ((l.getD k 0 : Nat) : Int)) := by
  rw [ints_get (by simpa using h)]
  simp [h]
theorem take_read {α : Type} {enc : α → List Value} {l : List α} {sp : List Value} {i j : Nat} {v : Value} (h : ((l.take i).flatMap enc)[j]? = some v) : (l.flatMap enc ++ sp)[0 + j]? = some v := by
  rw [Nat.zero_add]
  conv => lhs; rw [← List.take_append_drop i l]
  rw [List.flatMap_append, List.append_assoc]
  exact app_get h
theorem drop_read {α : Type} {enc : α → List Value} {sz : Nat} (hs : ∀ x, (enc x).length = sz) {l : List α} {sp : List Value} {i j : Nat} {v : Value} (hi : i ≤ l.length) (h : ((l.drop i).flatMap enc)[j]? = some v) : (l.flatMap enc ++ sp)[i * sz + j]? = some v := by
  conv => lhs; rw [← List.take_append_drop i l]
  have hl : ((l.take i).flatMap enc).length = i * sz := by rw [flat_length enc hs, List.length_take, Nat.min_eq_left hi]
  rw [List.flatMap_append, List.append_assoc, List.getElem?_append_right (by omega), hl, show i * sz + j - i * sz = j by omega]
  exact app_get h
theorem bagS_len (R : NetR) (l : Int × Int) : (R.bagS l).length = (R.bagI l).length := by
  unfold NetR.bagS NetR.bagI; rw [List.length_map, idx_len]
theorem bag_at {R : NetR} {l : Int × Int} {j : Nat} (h : j < (R.bagI l).length) : ∃ hi : (R.bagI l).getD j 0 < R.lts.length, (R.bagS l)[j]? = some (R.lts[(R.bagI l).getD j 0].2.2) := by
  have h' : j < (idx (NetR.on l) 0 R.lts).length := h
  obtain ⟨_, q1, q2, _⟩ := idx_get (NetR.on l) R.lts 0 j h'
  simp only [Nat.sub_zero] at q1 q2
  have e : (R.bagI l).getD j 0 = (idx (NetR.on l) 0 R.lts)[j] := by
    unfold NetR.bagI; rw [List.getD_eq_getElem?_getD, List.getElem?_eq_getElem h']; rfl
  refine ⟨by rw [e]; exact q1, ?_⟩
  unfold NetR.bagS
  rw [List.getElem?_map, ← q2]
  simp only [e]
  rw [List.getElem?_eq_getElem q1]; rfl
theorem lts_one (l : List Lt) : (l.flatMap ltCs).all (·.oneCell') = true := by
  rw [List.all_eq_true]; intro x hx
  obtain ⟨t, _, ht⟩ := List.mem_flatMap.1 hx
  simp [ltCs] at ht; rcases ht with rfl | rfl | rfl <;> rfl

set_option maxRecDepth 100000 in
set_option maxHeartbeats 4000000 in
theorem Rnone_spec (R : NetR) (bn : Nat) (m : Seg) (v : Int) (w : World) (hN : RNet R bn m) (ho : Owns w [m]) :
    Meets Try.prog 62 [.pointer (some ⟨bn, 0, none⟩), .int .i64 v] w [m] (fun u own' => u = .bool (decide (R.Non v)) ∧ own' = [m]) := by
  refine f_enter Try.func62 rfl Try.ntmps62 rfl ho ?_
  obtain ⟨uv, lv, tv, mu, ml, mt, hm, hA⟩ := hN
  refine f_subC (Sub.of_perm hm) ?_
  unfold rSegs
  obtain ⟨Au, cu, rfl, hcu⟩ := hA.up.val
  obtain ⟨Al, cl, rfl, hcl⟩ := hA.lts.val
  obtain ⟨At_, ct, rfl, hct⟩ := hA.tim.val
  have hltl := hA.ltl
  refine f_seq fun K1 kh1 => ?_
  refine f_region ?_
  refine f_stepP rfl rfl rfl (o_assign rfl) ?_
  refine f_done ?_
  refine f_tn (kh1 _ _ ?_)
  clear kh1
  refine f_seq fun K2 kh2 => ?_
  refine f_region ?_
  refine f_stepP rfl rfl rfl (o_move rfl) ?_
  refine f_stepP rfl rfl rfl (o_lss rfl rfl) ?_
  refine f_stepP rfl rfl rfl (o_move rfl) ?_
  refine f_splitL 7 rfl (fun g7 => ?_) (fun g7 => ?_)
  · skip
    refine f_stepN rfl rfl rfl rfl rfl rfl ?_
    refine f_stepN rfl rfl rfl rfl rfl rfl ?_
    refine f_stepN rfl rfl rfl rfl rfl rfl ?_
    refine f_stepN rfl rfl rfl rfl rfl rfl ?_
    refine f_stepN rfl rfl rfl rfl rfl rfl ?_
    refine f_stepN rfl rfl rfl rfl rfl rfl ?_
    refine f_stepN rfl rfl rfl rfl rfl rfl ?_
    refine f_stepP rfl rfl rfl (o_pickT rfl rfl) ?_
    refine f_stepP rfl rfl rfl (o_assign rfl) ?_
    refine f_done ?_
    refine f_tn (kh2 _ _ ?_)
    clear kh2
    refine f_ret ?_
    exact f_fin1 [m] Try.results62 rfl ⟨[], by simpa using hm.symm⟩ ⟨by rw [decide_eq_true (.inl g7)], rfl⟩
  · skip
    refine f_stepPY rfl rfl rfl rfl rfl (o_move rfl) ?_
    refine f_stepPY rfl rfl rfl rfl rfl (o_move rfl) ?_
    refine f_stepPY rfl rfl rfl rfl rfl (o_nil rfl) ?_
    refine f_stepPY rfl rfl rfl rfl rfl (o_field fa78_0 rfl) ?_
    refine f_stepPY rfl rfl rfl rfl rfl (o_load Try.isAgg56 rfl (rdA rfl)) ?_
    refine f_stepPY rfl rfl rfl rfl rfl (o_len sl56 rfl) ?_
    refine f_stepPY rfl rfl rfl rfl rfl (o_geq rfl rfl) ?_
    refine f_stepP rfl rfl rfl (o_pickF rfl rfl) ?_
    refine f_stepP rfl rfl rfl (o_assign rfl) ?_
    refine f_done ?_
    refine f_tn (kh2 _ _ ?_)
    clear kh2
    refine f_ret ?_
    exact f_fin1 [m] Try.results62 rfl ⟨[], by simpa using hm.symm⟩ ⟨by congr 1; exact decide_eq_decide.2 ⟨fun h => .inr h, fun h => h.resolve_left g7⟩, rfl⟩

set_option maxRecDepth 100000 in
set_option maxHeartbeats 4000000 in
theorem Rnolink_spec (R : NetR) (bn : Nat) (m : Seg) (l : Int × Int) (w : World) (hN : RNet R bn m) (ho : Owns w [m]) :
    Meets Try.prog 58 [.pointer (some ⟨bn, 0, none⟩), .int .i64 l.1, .int .i64 l.2] w [m] (fun u own' => u = .bool (decide (R.Bad l)) ∧ own' = [m]) := by
  refine f_enter Try.func58 rfl Try.ntmps58 rfl ho ?_
  refine f_seq fun K1 kh1 => ?_
  refine f_region ?_
  refine f_stepP rfl rfl rfl (o_assign rfl) ?_
  refine f_done ?_
  refine f_tn (kh1 _ _ ?_)
  clear kh1
  refine f_seq fun K2 kh2 => ?_
  refine f_region ?_
  refine f_stepP rfl rfl rfl (o_move rfl) ?_
  refine f_stepP rfl rfl rfl (o_move rfl) ?_
  refine f_step rfl rfl rfl (o_callM [m] _ Try.call62 rfl (Sub.pick (Sub.refl)) (fun w_ hp_ => Rnone_spec R bn m l.1 w_ hN hp_.owns) ?_)
  rintro _ _ ⟨rfl, rfl⟩
  dsimp only [List.cons_append, List.nil_append]
  refine f_stepP rfl rfl rfl (o_move rfl) ?_
  refine f_splitL 10 rfl (fun g10 => ?_) (fun g10 => ?_)
  · skip
    refine f_stepN rfl rfl rfl rfl rfl rfl ?_
    refine f_stepN rfl rfl rfl rfl rfl rfl ?_
    refine f_stepN rfl rfl rfl rfl rfl rfl ?_
    refine f_stepP rfl rfl rfl (o_pickT rfl rfl) ?_
    refine f_stepP rfl rfl rfl (o_move rfl) ?_
    refine f_stepN rfl rfl rfl rfl rfl rfl ?_
    refine f_stepN rfl rfl rfl rfl rfl rfl ?_
    refine f_stepN rfl rfl rfl rfl rfl rfl ?_
    refine f_stepP rfl rfl rfl (o_pickT rfl rfl) ?_
    refine f_stepP rfl rfl rfl (o_assign rfl) ?_
    refine f_done ?_
    refine f_tn (kh2 _ _ ?_)
    clear kh2
    refine f_ret ?_
    exact f_fin1 [m] Try.results58 rfl (by repeat (first | exact Sub.nil | refine Sub.pick ?_)) ⟨by rw [decide_eq_true (.inl g10)], rfl⟩
  · skip
    refine f_stepPY rfl rfl rfl rfl rfl (o_move rfl) ?_
    refine f_stepPY rfl rfl rfl rfl rfl (o_move rfl) ?_
    refine f_stepY rfl rfl rfl rfl rfl (o_callM [m] _ Try.call62 rfl (Sub.pick (Sub.refl)) (fun w_ hp_ => Rnone_spec R bn m l.2 w_ hN hp_.owns) ?_)
    rintro _ _ ⟨rfl, rfl⟩
    dsimp only [List.cons_append, List.nil_append]
    refine f_stepP rfl rfl rfl (o_pickF rfl rfl) ?_
    refine f_stepP rfl rfl rfl (o_move rfl) ?_
    refine f_splitL 15 rfl (fun g15 => ?_) (fun g15 => ?_)
    · skip
      refine f_stepN rfl rfl rfl rfl rfl rfl ?_
      refine f_stepN rfl rfl rfl rfl rfl rfl ?_
      refine f_stepN rfl rfl rfl rfl rfl rfl ?_
      refine f_stepP rfl rfl rfl (o_pickT rfl rfl) ?_
      refine f_stepP rfl rfl rfl (o_assign rfl) ?_
      refine f_done ?_
      refine f_tn (kh2 _ _ ?_)
      clear kh2
      refine f_ret ?_
      exact f_fin1 [m] Try.results58 rfl (by repeat (first | exact Sub.nil | refine Sub.pick ?_)) ⟨by rw [decide_eq_true (.inr (.inl g15))], rfl⟩
    · skip
      refine f_stepPY rfl rfl rfl rfl rfl (o_move rfl) ?_
      refine f_stepPY rfl rfl rfl rfl rfl (o_move rfl) ?_
      refine f_stepPY rfl rfl rfl rfl rfl (o_eql rfl rfl) ?_
      refine f_stepP rfl rfl rfl (o_pickF rfl rfl) ?_
      refine f_stepP rfl rfl rfl (o_assign rfl) ?_
      refine f_done ?_
      refine f_tn (kh2 _ _ ?_)
      clear kh2
      refine f_ret ?_
      exact f_fin1 [m] Try.results58 rfl (by repeat (first | exact Sub.nil | refine Sub.pick ?_)) ⟨by congr 1; exact decide_eq_decide.2 ⟨fun h => .inr (.inr h), fun h => (h.resolve_left g10).resolve_left g15⟩, rfl⟩

set_option maxRecDepth 100000 in
set_option maxHeartbeats 4000000 in
theorem Rbag_spec (R : NetR) (bn : Nat) (m : Seg) (l : Int × Int) (w : World) (hN : RNet R bn m) (ho : Owns w [m]) :
    Meets Try.prog 59 [.pointer (some ⟨bn, 0, none⟩), .int .i64 l.1, .int .i64 l.2] w [m] (fun u own' => ∃ mi m', own' = [m', mi] ∧ RNet R bn m' ∧ Own 3 1 u (R.bagI l).length (ints (nats (R.bagI l))) mi) := by
  refine f_enter Try.func59 rfl Try.ntmps59 rfl ho ?_
  obtain ⟨uv, lv, tv, mu, ml, mt, hm, hA⟩ := hN
  refine f_subC (Sub.of_perm hm) ?_
  unfold rSegs
  obtain ⟨Au, cu, rfl, hcu⟩ := hA.up.val
  obtain ⟨Al, cl, rfl, hcl⟩ := hA.lts.val
  obtain ⟨At_, ct, rfl, hct⟩ := hA.tim.val
  have hltl := hA.ltl
  refine f_seq fun K1 kh1 => ?_
  refine f_region ?_
  refine f_stepP rfl rfl rfl (o_assign rfl) ?_
  refine f_done ?_
  refine f_tn (kh1 _ _ ?_)
  clear kh1
  refine f_seq fun K2 kh2 => ?_
  refine f_region ?_
  refine f_stepP rfl rfl rfl (o_assign rfl) ?_
  refine f_done ?_
  refine f_tn (kh2 _ _ ?_)
  clear kh2
  refine f_seq fun K3 kh3 => ?_
  refine f_seq fun K4 kh4 => ?_
  refine f_region ?_
  refine f_stepP rfl rfl rfl (o_assign rfl) ?_
  refine f_done ?_
  refine f_tn (kh4 _ _ ?_)
  clear kh4
  refine f_block ?_
  refine f_loop (α := Nat × Value × Seg) [0, 1, 2] (fun ⟨i, vo, mi⟩ => [(8, .int .i64 (i : Int)), (7, vo)]) (fun ⟨i, vo, mi⟩ => [[(bn, blk [.slice Au R.up.length cu, .slice Al R.lts.length cl, .slice At_ R.tim.length ct, .int .i64 R.clk] 78)], mu, ml, mt, mi]) (fun ⟨i, vo, mi⟩ => i ≤ R.lts.length ∧ Own 3 1 vo (idx (NetR.on l) 0 (R.lts.take i)).length (ints (nats (idx (NetR.on l) 0 (R.lts.take i)))) mi) (fun ⟨i, vo, mi⟩ => R.lts.length - i) (0, .slice none 0 0, []) ?_ ?_ ?_ ?_
  · exact (by repeat (first | exact trivial | refine ⟨rfl, ?_⟩))
  · repeat (first | exact Sub.nil | refine Sub.pick ?_ | refine Sub.castO rfl ?_ | refine Sub.skip ?_)
  · exact ⟨by omega, Own.nil _ _⟩
  · rintro ⟨i, vo, mi⟩ ⟨hil, ho1⟩
    have hxl := idx_lt (NetR.on l) (R.lts.take i) 0
    have hxm : (R.lts.take i).length ≤ 1000000 := by rw [List.length_take]; omega
    refine f_seq fun K5 kh5 => ?_
    refine f_seq fun K6 kh6 => ?_
    refine f_region ?_
    refine f_stepP rfl rfl rfl (o_move rfl) ?_
    refine f_stepP rfl rfl rfl (o_move rfl) ?_
    refine f_stepP rfl rfl rfl (o_nil rfl) ?_
    refine f_stepP rfl rfl rfl (o_field fa78_1 rfl) ?_
    refine f_stepP rfl rfl rfl (o_load Try.isAgg76 rfl (rdA rfl)) ?_
    refine f_stepP rfl rfl rfl (o_len sl76 rfl) ?_
    refine f_stepP rfl rfl rfl (o_lss rfl rfl) ?_
    refine f_done ?_
    refine f_tn (kh6 _ _ ?_)
    clear kh6
    refine f_cond rfl (fun c15 => ?_) (fun c15 => ?_)
    · skip
      refine f_skip ?_
      refine f_tn (kh5 _ _ ?_)
      clear kh5
      refine f_seq fun K7 kh7 => ?_
      refine f_block ?_
      refine f_seq fun K8 kh8 => ?_
      refine f_region ?_
      refine f_stepP rfl rfl rfl (o_move rfl) ?_
      refine f_stepP rfl rfl rfl (o_nil rfl) ?_
      refine f_stepP rfl rfl rfl (o_field fa78_1 rfl) ?_
      refine f_stepP rfl rfl rfl (o_load Try.isAgg76 rfl (rdA rfl)) ?_
      refine f_stepP rfl rfl rfl (o_move rfl) ?_
      have hi : i < R.lts.length := by omega
      obtain ⟨bl, spl, rfl, rfl⟩ := hA.lts.at_ (by omega)
      refine f_stepP rfl rfl rfl (o_idx sl76 rfl rfl (i * 3) ⟨by omega, by omega, by first | omega | (simp; done) | (simp; omega)⟩) ?_
      refine f_stepP rfl rfl rfl (o_field fa89_0 rfl) ?_
      refine f_stepP rfl rfl rfl (o_load Try.isAgg3 rfl (rdOwn ltCs_len hi rfl)) ?_
      refine f_stepP rfl rfl rfl (o_move rfl) ?_
      refine f_stepP rfl rfl rfl (o_eql rfl rfl) ?_
      refine f_stepP rfl rfl rfl (o_move rfl) ?_
      refine f_splitL 28 rfl (fun g28 => ?_) (fun g28 => ?_)
      · skip
        refine f_stepPY rfl rfl rfl rfl rfl (o_move rfl) ?_
        refine f_stepPY rfl rfl rfl rfl rfl (o_nil rfl) ?_
        refine f_stepPY rfl rfl rfl rfl rfl (o_field fa78_1 rfl) ?_
        refine f_stepPY rfl rfl rfl rfl rfl (o_load Try.isAgg76 rfl (rdA rfl)) ?_
        refine f_stepPY rfl rfl rfl rfl rfl (o_move rfl) ?_
        have hi2 := hi
        refine f_stepPY rfl rfl rfl rfl rfl (o_idx sl76 rfl rfl (i * 3) ⟨by omega, by omega, by first | omega | (simp; done) | (simp; omega)⟩) ?_
        refine f_stepPY rfl rfl rfl rfl rfl (o_field fa89_1 rfl) ?_
        refine f_stepPY rfl rfl rfl rfl rfl (o_load Try.isAgg3 rfl (rdOwn ltCs_len hi rfl)) ?_
        refine f_stepPY rfl rfl rfl rfl rfl (o_move rfl) ?_
        refine f_stepPY rfl rfl rfl rfl rfl (o_eql rfl rfl) ?_
        refine f_stepP rfl rfl rfl (o_pickT rfl rfl) ?_
        refine f_done ?_
        refine f_tn (kh8 _ _ ?_)
        clear kh8
        refine f_cond rfl (fun c39 => ?_) (fun c39 => ?_)
        · skip
          refine f_region ?_
          refine f_stepP rfl rfl rfl (o_move rfl) ?_
          refine f_stepP rfl rfl rfl (o_move rfl) ?_
          refine f_step rfl rfl rfl (o_slice1 el74 (by omega) rfl rfl rfl fun b42 => ?_)
          refine f_step rfl rfl rfl (o_append el74 rfl rfl ho1 (ys := [.int .i64 (i : Int)]) ⟨(rdA rfl), trivial⟩ rfl rfl (by omega) (by omega) fun v43 m43 o43 => ?_)
          refine f_stepP rfl rfl rfl (o_assign rfl) ?_
          refine f_done ?_
          refine f_bn ?_
          refine f_tn (kh7 _ _ ?_)
          clear kh7
          refine f_region ?_
          refine f_stepP rfl rfl rfl (o_move rfl) ?_
          refine f_stepP rfl rfl rfl (o_add rfl rfl _ (wrap_i64 (by omega))) ?_
          refine f_stepP rfl rfl rfl (o_assign rfl) ?_
          refine f_done ?_
          refine f_tn (f_again (i + 1, v43, m43) (by first | omega | (dsimp only; omega) | (simp; omega)) ⟨by omega, by rw [idx_next (NetR.on l) hi, if_pos (by simp [NetR.on, g28, c39]), List.length_append]; simpa [nats, ints] using o43⟩ ?_ ?_ ?_)
          · exact (by repeat (first | exact trivial | refine ⟨rfl, ?_⟩))
          · exact (by repeat (first | exact trivial | refine ⟨rfl, ?_⟩))
          · repeat (first | exact Sub.nil | refine Sub.pick ?_ | refine Sub.castO rfl ?_ | refine Sub.skip ?_)
        · skip
          refine f_skip ?_
          refine f_bn ?_
          refine f_tn (kh7 _ _ ?_)
          clear kh7
          refine f_region ?_
          refine f_stepP rfl rfl rfl (o_move rfl) ?_
          refine f_stepP rfl rfl rfl (o_add rfl rfl _ (wrap_i64 (by omega))) ?_
          refine f_stepP rfl rfl rfl (o_assign rfl) ?_
          refine f_done ?_
          refine f_tn (f_again (i + 1, vo, mi) (by first | omega | (dsimp only; omega) | (simp; omega)) ⟨by omega, by rw [idx_next (NetR.on l) hi, if_neg (by simp [NetR.on, c39]), List.append_nil]; exact ho1⟩ ?_ ?_ ?_)
          · exact (by repeat (first | exact trivial | refine ⟨rfl, ?_⟩))
          · exact (by repeat (first | exact trivial | refine ⟨rfl, ?_⟩))
          · repeat (first | exact Sub.nil | refine Sub.pick ?_ | refine Sub.castO rfl ?_ | refine Sub.skip ?_)
      · skip
        refine f_stepN rfl rfl rfl rfl rfl rfl ?_
        refine f_stepN rfl rfl rfl rfl rfl rfl ?_
        refine f_stepN rfl rfl rfl rfl rfl rfl ?_
        refine f_stepN rfl rfl rfl rfl rfl rfl ?_
        refine f_stepN rfl rfl rfl rfl rfl rfl ?_
        refine f_stepN rfl rfl rfl rfl rfl rfl ?_
        refine f_stepN rfl rfl rfl rfl rfl rfl ?_
        refine f_stepN rfl rfl rfl rfl rfl rfl ?_
        refine f_stepN rfl rfl rfl rfl rfl rfl ?_
        refine f_stepN rfl rfl rfl rfl rfl rfl ?_
        refine f_stepP rfl rfl rfl (o_pickF rfl rfl) ?_
        refine f_done ?_
        refine f_tn (kh8 _ _ ?_)
        clear kh8
        refine f_condF rfl ?_
        refine f_skip ?_
        refine f_bn ?_
        refine f_tn (kh7 _ _ ?_)
        clear kh7
        refine f_region ?_
        refine f_stepP rfl rfl rfl (o_move rfl) ?_
        refine f_stepP rfl rfl rfl (o_add rfl rfl _ (wrap_i64 (by omega))) ?_
        refine f_stepP rfl rfl rfl (o_assign rfl) ?_
        refine f_done ?_
        refine f_tn (f_again (i + 1, vo, mi) (by first | omega | (dsimp only; omega) | (simp; omega)) ⟨by omega, by rw [idx_next (NetR.on l) hi, if_neg (by simp [NetR.on, g28]), List.append_nil]; exact ho1⟩ ?_ ?_ ?_)
        · exact (by repeat (first | exact trivial | refine ⟨rfl, ?_⟩))
        · exact (by repeat (first | exact trivial | refine ⟨rfl, ?_⟩))
        · repeat (first | exact Sub.nil | refine Sub.pick ?_ | refine Sub.castO rfl ?_ | refine Sub.skip ?_)
    · skip
      refine f_exit ?_
      refine f_te ?_
      clear kh5
      refine f_te ?_
      refine f_be ?_
      refine f_tn (kh3 _ _ ?_)
      clear kh3
      refine f_seq fun K9 kh9 => ?_
      refine f_region ?_
      refine f_stepP rfl rfl rfl (o_move rfl) ?_
      refine f_stepP rfl rfl rfl (o_assign rfl) ?_
      refine f_done ?_
      refine f_tn (kh9 _ _ ?_)
      clear kh9
      refine f_ret ?_
      obtain rfl : i = R.lts.length := by omega
      rw [List.take_length] at ho1
      exact f_fin1 [(rSegs R bn (.slice Au R.up.length cu) (.slice Al R.lts.length cl) (.slice At_ R.tim.length ct) mu ml mt).flatten, mi] Try.results59 rfl (Sub.flat2 (by repeat (first | exact Sub.nil | refine Sub.pick ?_))) ⟨mi, _, rfl, RNet.mk hA, ho1⟩

set_option maxRecDepth 100000 in
set_option maxHeartbeats 4000000 in
theorem RSend_spec (R : NetR) (bn : Nat) (m : Seg) (l : Int × Int) (s : ByteArray) (w : World) (hN : RNet R bn m) (ho : Owns w [m]) (hle : R.lts.length < 1000000) :
    Meets Try.prog 40 [.pointer (some ⟨bn, 0, none⟩), .int .i64 l.1, .int .i64 l.2, .string s] w [m] (fun u own' => u = .int .i64 (R.send l s).1 ∧ ∃ m', own' = [m'] ∧ RNet (R.send l s).2 bn m') := by
  refine f_enter Try.func40 rfl Try.ntmps40 rfl ho ?_
  refine f_seq fun K1 kh1 => ?_
  refine f_region ?_
  refine f_stepP rfl rfl rfl (o_assign rfl) ?_
  refine f_done ?_
  refine f_tn (kh1 _ _ ?_)
  clear kh1
  refine f_seq fun K2 kh2 => ?_
  refine f_seq fun K3 kh3 => ?_
  refine f_region ?_
  refine f_stepP rfl rfl rfl (o_move rfl) ?_
  refine f_stepP rfl rfl rfl (o_move rfl) ?_
  refine f_stepP rfl rfl rfl (o_move rfl) ?_
  refine f_step rfl rfl rfl (o_callM [m] _ Try.call58 rfl (Sub.pick (Sub.refl)) (fun w_ hp_ => Rnolink_spec R bn m l w_ hN hp_.owns) ?_)
  rintro _ _ ⟨rfl, rfl⟩
  dsimp only [List.cons_append, List.nil_append]
  refine f_done ?_
  refine f_tn (kh3 _ _ ?_)
  clear kh3
  refine f_cond rfl (fun c12 => ?_) (fun c12 => ?_)
  · skip
    refine f_seq fun K4 kh4 => ?_
    refine f_region ?_
    refine f_stepP rfl rfl rfl (o_assign rfl) ?_
    refine f_done ?_
    refine f_tn (kh4 _ _ ?_)
    clear kh4
    refine f_ret ?_
    refine f_tr ?_
    have e : R.send l s = (190, R) := if_pos c12
    exact f_fin1 [m] Try.results40 rfl (by repeat (first | exact Sub.nil | refine Sub.pick ?_)) ⟨by rw [e], _, rfl, by rw [e]; exact hN⟩
  · skip
    have hb := c12
    unfold NetR.Bad NetR.Non at hb
    have hk : l.1.toNat < R.up.length := by omega
    refine f_skip ?_
    refine f_tn (kh2 _ _ ?_)
    clear kh2
    refine f_seq fun K5 kh5 => ?_
    refine f_seq fun K6 kh6 => ?_
    refine f_region ?_
    refine f_stepP rfl rfl rfl (o_move rfl) ?_
    refine f_stepP rfl rfl rfl (o_lenS Try.runUnderlying9 rfl) ?_
    refine f_stepP rfl rfl rfl (o_gtr rfl rfl) ?_
    refine f_done ?_
    refine f_tn (kh6 _ _ ?_)
    clear kh6
    refine f_cond rfl (fun c15 => ?_) (fun c15 => ?_)
    · skip
      refine f_seq fun K7 kh7 => ?_
      refine f_region ?_
      refine f_stepP rfl rfl rfl (o_assign rfl) ?_
      refine f_done ?_
      refine f_tn (kh7 _ _ ?_)
      clear kh7
      refine f_ret ?_
      refine f_tr ?_
      have e : R.send l s = (2, R) := by rw [NetR.send, if_neg c12, if_pos (by omega)]
      exact f_fin1 [m] Try.results40 rfl (by repeat (first | exact Sub.nil | refine Sub.pick ?_)) ⟨by rw [e], _, rfl, by rw [e]; exact hN⟩
    · skip
      obtain ⟨uv, lv, tv, mu, ml, mt, hm, hA⟩ := hN
      refine f_subC (Sub.opened hm) ?_
      dsimp only [rSegs, List.cons_append, List.nil_append]
      obtain ⟨Au, cu, rfl, hcu⟩ := hA.up.val
      obtain ⟨Al, cl, rfl, hcl⟩ := hA.lts.val
      obtain ⟨At_, ct, rfl, hct⟩ := hA.tim.val
      have hltl := hA.ltl
      refine f_skip ?_
      refine f_tn (kh5 _ _ ?_)
      clear kh5
      refine f_seq fun K8 kh8 => ?_
      refine f_seq fun K9 kh9 => ?_
      refine f_region ?_
      refine f_stepP rfl rfl rfl (o_move rfl) ?_
      refine f_stepP rfl rfl rfl (o_nil rfl) ?_
      refine f_stepP rfl rfl rfl (o_field fa78_0 rfl) ?_
      refine f_stepP rfl rfl rfl (o_load Try.isAgg56 rfl (rdA rfl)) ?_
      refine f_stepP rfl rfl rfl (o_move rfl) ?_
      obtain ⟨bu, spu, rfl, rfl⟩ := hA.up.at_ (by omega)
      refine f_stepP rfl rfl rfl (o_idx sl56 rfl rfl (l.1.toNat) ⟨by omega, by omega, by first | omega | (simp; done) | (simp; omega)⟩) ?_
      refine f_stepP rfl rfl rfl (o_load Try.isAgg4 rfl (rdA (app_get (bools_get hk)))) ?_
      refine f_stepP rfl rfl rfl (o_not rfl) ?_
      refine f_done ?_
      refine f_tn (kh9 _ _ ?_)
      clear kh9
      refine f_condB rfl (fun c23 => ?_) (fun c23 => ?_)
      · skip
        refine f_seq fun K10 kh10 => ?_
        refine f_region ?_
        refine f_stepP rfl rfl rfl (o_assign rfl) ?_
        refine f_done ?_
        refine f_tn (kh10 _ _ ?_)
        clear kh10
        refine f_ret ?_
        refine f_tr ?_
        have e : R.send l s = (191, R) := by rw [NetR.send, if_neg c12, if_neg (by omega), if_pos (by rw [up_at hk]; simpa using c23)]
        exact f_fin1 [(rSegs R bn (.slice (some ⟨bu, 0, none⟩) R.up.length cu) (.slice Al R.lts.length cl) (.slice At_ R.tim.length ct) ([(bu, blk (bools R.up ++ spu) 4)]) ml mt).flatten] Try.results40 rfl (Sub.flat (by repeat (first | exact Sub.nil | refine Sub.pick ?_))) ⟨by rw [e], _, rfl, by rw [e]; exact RNet.mk hA⟩
      · skip
        refine f_subC (Sub.flat (out := rSegs R bn (.slice (some ⟨bu, 0, none⟩) R.up.length cu) (.slice Al R.lts.length cl) (.slice At_ R.tim.length ct) ([(bu, blk (bools R.up ++ spu) 4)]) (ml) (mt)) (by repeat (first | exact Sub.nil | refine Sub.pick ?_))) ?_
        have hN1 : RNet R bn (rSegs R bn (.slice (some ⟨bu, 0, none⟩) R.up.length cu) (.slice Al R.lts.length cl) (.slice At_ R.tim.length ct) ([(bu, blk (bools R.up ++ spu) 4)]) (ml) (mt)).flatten := RNet.mk hA
        generalize (rSegs R bn (.slice (some ⟨bu, 0, none⟩) R.up.length cu) (.slice Al R.lts.length cl) (.slice At_ R.tim.length ct) ([(bu, blk (bools R.up ++ spu) 4)]) (ml) (mt)).flatten = m1 at hN1 ⊢
        refine f_skip ?_
        refine f_tn (kh8 _ _ ?_)
        clear kh8
        refine f_seq fun K11 kh11 => ?_
        refine f_seq fun K12 kh12 => ?_
        refine f_region ?_
        refine f_stepP rfl rfl rfl (o_move rfl) ?_
        refine f_stepP rfl rfl rfl (o_move rfl) ?_
        refine f_stepP rfl rfl rfl (o_move rfl) ?_
        refine f_step rfl rfl rfl (o_callM [m1] _ Try.call59 rfl (Sub.pick (Sub.refl)) (fun w_ hp_ => Rbag_spec R bn m1 l w_ hN1 hp_.owns) ?_)
        rintro vi _ ⟨mi, m2, rfl, hN2, hoi⟩
        obtain ⟨Ai, ci, rfl, hci⟩ := hoi.val
        dsimp only [List.cons_append, List.nil_append]
        refine f_stepP rfl rfl rfl (o_len sl74 rfl) ?_
        refine f_stepP rfl rfl rfl (o_geq rfl rfl) ?_
        refine f_done ?_
        refine f_tn (kh12 _ _ ?_)
        clear kh12
        refine f_cond rfl (fun c29 => ?_) (fun c29 => ?_)
        · skip
          refine f_seq fun K13 kh13 => ?_
          refine f_region ?_
          refine f_stepP rfl rfl rfl (o_assign rfl) ?_
          refine f_done ?_
          refine f_tn (kh13 _ _ ?_)
          clear kh13
          refine f_ret ?_
          refine f_tr ?_
          have e : R.send l s = (2, R) := by rw [NetR.send, if_neg c12, if_neg (by omega), if_neg (by rw [up_at hk]; simpa using c23), if_pos (by omega)]
          exact f_fin1 [m2] Try.results40 rfl (by repeat (first | exact Sub.nil | refine Sub.pick ?_)) ⟨by rw [e], _, rfl, by rw [e]; exact hN2⟩
        · skip
          obtain ⟨uv, lv, tv, mu, ml, mt, hm, hA⟩ := hN2
          refine f_subC (Sub.opened hm) ?_
          dsimp only [rSegs, List.cons_append, List.nil_append]
          obtain ⟨Au, cu, rfl, hcu⟩ := hA.up.val
          obtain ⟨Al, cl, rfl, hcl⟩ := hA.lts.val
          obtain ⟨At_, ct, rfl, hct⟩ := hA.tim.val
          have hltl := hA.ltl
          refine f_skip ?_
          refine f_tn (kh11 _ _ ?_)
          clear kh11
          refine f_seq fun K14 kh14 => ?_
          refine f_region ?_
          refine f_stepP rfl rfl rfl (o_move rfl) ?_
          refine f_stepP rfl rfl rfl (o_move rfl) ?_
          refine f_stepP rfl rfl rfl (o_nil rfl) ?_
          refine f_stepP rfl rfl rfl (o_field fa78_1 rfl) ?_
          refine f_stepP rfl rfl rfl (o_load Try.isAgg76 rfl (rdA rfl)) ?_
          refine f_stepP rfl rfl rfl (o_move rfl) ?_
          refine f_stepP rfl rfl rfl (o_move rfl) ?_
          refine f_stepP rfl rfl rfl (o_move rfl) ?_
          refine f_stepP rfl rfl rfl (o_build st89 rfl rfl) ?_
          refine f_step rfl rfl rfl (o_slice1 el76 (by omega) rfl rfl rfl fun b39 => ?_)
          refine f_step rfl rfl rfl (o_append el76 rfl rfl hA.lts (ys := ltCs (l.1, l.2, s)) ⟨(rdA rfl), (rdA rfl), (rdA rfl), trivial⟩ rfl rfl (by omega) (by omega) fun v40 m40 o40 => ?_)
          obtain ⟨A40, c40, rfl, _⟩ := o40.val
          refine f_stepP rfl rfl rfl (o_nil rfl) ?_
          refine f_stepP rfl rfl rfl (o_field fa78_1 rfl) ?_
          refine f_step0 rfl rfl (o_store Try.sizeOf76 rfl rfl rfl rfl (by first | exact Nat.le_of_ble_eq_true rfl | (simp; done) | (simp; omega)) [.slice Au R.up.length cu, .slice A40 (R.lts.length + 1) c40, .slice At_ R.tim.length ct, .int .i64 R.clk] rfl ?_)
          refine f_done ?_
          refine f_tn (kh14 _ _ ?_)
          clear kh14
          refine f_seq fun K15 kh15 => ?_
          refine f_region ?_
          refine f_stepP rfl rfl rfl (o_assign rfl) ?_
          refine f_done ?_
          refine f_tn (kh15 _ _ ?_)
          clear kh15
          refine f_ret ?_
          have e : R.send l s = (0, { R with lts := R.lts ++ [(l.1, l.2, s)] }) := by rw [NetR.send, if_neg c12, if_neg (by omega), if_neg (by rw [up_at hk]; simpa using c23), if_neg (by omega)]
          exact f_fin1 [(rSegs { R with lts := R.lts ++ [(l.1, l.2, s)] } bn (.slice Au R.up.length cu) (.slice A40 (R.lts.length + 1) c40) (.slice At_ R.tim.length ct) mu m40 mt).flatten] Try.results40 rfl (Sub.flat (by repeat (first | exact Sub.nil | refine Sub.pick ?_))) ⟨by rw [e], _, rfl, by rw [e]; exact RNet.mk (hA.put (by rw [List.length_append, List.flatMap_append]; simpa using o40) (by rw [List.length_append]; simp; omega))⟩

set_option maxRecDepth 100000 in
set_option maxHeartbeats 4000000 in
theorem Rfind_spec (R : NetR) (bn : Nat) (m : Seg) (l : Int × Int) (k : Int) (w : World) (hN : RNet R bn m) (ho : Owns w [m]) :
    Meets Try.prog 60 [.pointer (some ⟨bn, 0, none⟩), .int .i64 l.1, .int .i64 l.2, .int .i64 k] w [m] (fun u own' => u = .tuple #[.int .i64 (R.find l k).1, .int .i64 (R.find l k).2] ∧ ∃ m', own' = [m'] ∧ RNet R bn m') := by
  refine f_enter Try.func60 rfl Try.ntmps60 rfl ho ?_
  refine f_seq fun K1 kh1 => ?_
  refine f_region ?_
  refine f_stepP rfl rfl rfl (o_assign rfl) ?_
  refine f_stepP rfl rfl rfl (o_assign rfl) ?_
  refine f_done ?_
  refine f_tn (kh1 _ _ ?_)
  clear kh1
  refine f_seq fun K2 kh2 => ?_
  refine f_seq fun K3 kh3 => ?_
  refine f_region ?_
  refine f_stepP rfl rfl rfl (o_move rfl) ?_
  refine f_stepP rfl rfl rfl (o_move rfl) ?_
  refine f_stepP rfl rfl rfl (o_move rfl) ?_
  refine f_step rfl rfl rfl (o_callM [m] _ Try.call58 rfl (Sub.pick (Sub.refl)) (fun w_ hp_ => Rnolink_spec R bn m l w_ hN hp_.owns) ?_)
  rintro _ _ ⟨rfl, rfl⟩
  dsimp only [List.cons_append, List.nil_append]
  refine f_done ?_
  refine f_tn (kh3 _ _ ?_)
  clear kh3
  refine f_cond rfl (fun c14 => ?_) (fun c14 => ?_)
  · skip
    refine f_seq fun K4 kh4 => ?_
    refine f_region ?_
    refine f_stepP rfl rfl rfl (o_assign rfl) ?_
    refine f_stepP rfl rfl rfl (o_assign rfl) ?_
    refine f_done ?_
    refine f_tn (kh4 _ _ ?_)
    clear kh4
    refine f_ret ?_
    refine f_tr ?_
    have e : R.find l k = (0, 190) := if_pos c14
    exact f_fin2 [m] Try.results60 rfl rfl (by repeat (first | exact Sub.nil | refine Sub.pick ?_)) ⟨by rw [e], _, rfl, hN⟩
  · skip
    refine f_skip ?_
    refine f_tn (kh2 _ _ ?_)
    clear kh2
    refine f_seq fun K5 kh5 => ?_
    refine f_region ?_
    refine f_stepP rfl rfl rfl (o_move rfl) ?_
    refine f_stepP rfl rfl rfl (o_move rfl) ?_
    refine f_stepP rfl rfl rfl (o_move rfl) ?_
    refine f_step rfl rfl rfl (o_callM [m] _ Try.call59 rfl (Sub.pick (Sub.refl)) (fun w_ hp_ => Rbag_spec R bn m l w_ hN hp_.owns) ?_)
    rintro vi _ ⟨mi, m2, rfl, hN2, hoi⟩
    obtain ⟨Ai, ci, rfl, hci⟩ := hoi.val
    dsimp only [List.cons_append, List.nil_append]
    refine f_stepP rfl rfl rfl (o_assign rfl) ?_
    refine f_done ?_
    refine f_tn (kh5 _ _ ?_)
    clear kh5
    refine f_seq fun K6 kh6 => ?_
    refine f_seq fun K7 kh7 => ?_
    refine f_region ?_
    refine f_stepP rfl rfl rfl (o_move rfl) ?_
    refine f_stepP rfl rfl rfl (o_lss rfl rfl) ?_
    refine f_stepP rfl rfl rfl (o_move rfl) ?_
    refine f_splitL 21 rfl (fun g21 => ?_) (fun g21 => ?_)
    · skip
      refine f_stepN rfl rfl rfl rfl rfl rfl ?_
      refine f_stepN rfl rfl rfl rfl rfl rfl ?_
      refine f_stepN rfl rfl rfl rfl rfl rfl ?_
      refine f_stepN rfl rfl rfl rfl rfl rfl ?_
      refine f_stepP rfl rfl rfl (o_pickT rfl rfl) ?_
      refine f_done ?_
      refine f_tn (kh7 _ _ ?_)
      clear kh7
      refine f_condT rfl ?_
      refine f_seq fun K8 kh8 => ?_
      refine f_region ?_
      refine f_stepP rfl rfl rfl (o_assign rfl) ?_
      refine f_stepP rfl rfl rfl (o_assign rfl) ?_
      refine f_done ?_
      refine f_tn (kh8 _ _ ?_)
      clear kh8
      refine f_ret ?_
      refine f_tr ?_
      have e : R.find l k = (0, 5) := by rw [NetR.find, if_neg c14, if_pos (.inl g21)]
      exact f_fin2 [m2] Try.results60 rfl rfl (by repeat (first | exact Sub.nil | refine Sub.pick ?_)) ⟨by rw [e], _, rfl, hN2⟩
    · skip
      refine f_stepPY rfl rfl rfl rfl rfl (o_move rfl) ?_
      refine f_stepPY rfl rfl rfl rfl rfl (o_move rfl) ?_
      refine f_stepPY rfl rfl rfl rfl rfl (o_len sl74 rfl) ?_
      refine f_stepPY rfl rfl rfl rfl rfl (o_geq rfl rfl) ?_
      refine f_stepP rfl rfl rfl (o_pickF rfl rfl) ?_
      refine f_done ?_
      refine f_tn (kh7 _ _ ?_)
      clear kh7
      refine f_cond rfl (fun c26 => ?_) (fun c26 => ?_)
      · skip
        refine f_seq fun K9 kh9 => ?_
        refine f_region ?_
        refine f_stepP rfl rfl rfl (o_assign rfl) ?_
        refine f_stepP rfl rfl rfl (o_assign rfl) ?_
        refine f_done ?_
        refine f_tn (kh9 _ _ ?_)
        clear kh9
        refine f_ret ?_
        refine f_tr ?_
        have e : R.find l k = (0, 5) := by rw [NetR.find, if_neg c14, if_pos (.inr (by omega))]
        exact f_fin2 [m2] Try.results60 rfl rfl (by repeat (first | exact Sub.nil | refine Sub.pick ?_)) ⟨by rw [e], _, rfl, hN2⟩
      · skip
        refine f_skip ?_
        refine f_tn (kh6 _ _ ?_)
        clear kh6
        refine f_seq fun K10 kh10 => ?_
        refine f_region ?_
        refine f_stepP rfl rfl rfl (o_move rfl) ?_
        refine f_stepP rfl rfl rfl (o_move rfl) ?_
        obtain ⟨bi, spi, rfl, rfl⟩ := hoi.at_ (by omega)
        refine f_stepP rfl rfl rfl (o_idx sl74 rfl rfl (k.toNat) ⟨by omega, by omega, by first | omega | (simp; done) | (simp; omega)⟩) ?_
        refine f_stepP rfl rfl rfl (o_load Try.isAgg3 rfl (rdA (v := .int .i64 (((R.bagI l).getD k.toNat 0 : Nat) : Int)) (app_get (nats_get (by omega))))) ?_
        refine f_stepP rfl rfl rfl (o_assign rfl) ?_
        refine f_stepP rfl rfl rfl (o_assign rfl) ?_
        refine f_done ?_
        refine f_tn (kh10 _ _ ?_)
        clear kh10
        refine f_ret ?_
        have e : R.find l k = ((((R.bagI l).getD k.toNat 0 : Nat) : Int), 0) := by rw [NetR.find, if_neg c14, if_neg (by omega)]
        exact f_fin2 [m2] Try.results60 rfl rfl (by repeat (first | exact Sub.nil | refine Sub.pick ?_)) ⟨by rw [e], _, rfl, hN2⟩

set_option maxRecDepth 100000 in
set_option maxHeartbeats 4000000 in
theorem Rdrop_spec (R : NetR) (bn : Nat) (m : Seg) (i : Nat) (w : World) (hN : RNet R bn m) (hi : i < R.lts.length) (ho : Owns w [m]) :
    Meets Try.prog 61 [.pointer (some ⟨bn, 0, none⟩), .int .i64 (i : Int)] w [m] (fun u own' => ∃ m', own' = [m'] ∧ RNet (R.drop i) bn m') := by
  refine f_enter Try.func61 rfl Try.ntmps61 rfl ho ?_
  obtain ⟨uv, lv, tv, mu, ml, mt, hm, hA⟩ := hN
  refine f_subC (Sub.of_perm hm) ?_
  unfold rSegs
  obtain ⟨Au, cu, rfl, hcu⟩ := hA.up.val
  obtain ⟨Al, cl, rfl, hcl⟩ := hA.lts.val
  obtain ⟨At_, ct, rfl, hct⟩ := hA.tim.val
  have hltl := hA.ltl
  obtain ⟨bl, spl, rfl, rfl⟩ := hA.lts.at_ (by omega)
  refine f_subC Sub.addNil ?_
  refine f_seq fun K1 kh1 => ?_
  refine f_region ?_
  refine f_stepP rfl rfl rfl (o_assign rfl) ?_
  refine f_done ?_
  refine f_tn (kh1 _ _ ?_)
  clear kh1
  refine f_seq fun K2 kh2 => ?_
  refine f_region ?_
  refine f_stepP rfl rfl rfl (o_move rfl) ?_
  refine f_stepP rfl rfl rfl (o_move rfl) ?_
  refine f_stepP rfl rfl rfl (o_nil rfl) ?_
  refine f_stepP rfl rfl rfl (o_field fa78_1 rfl) ?_
  refine f_stepP rfl rfl rfl (o_load Try.isAgg76 rfl (rdA rfl)) ?_
  refine f_stepP rfl rfl rfl (o_move rfl) ?_
  refine f_stepP rfl rfl rfl (o_slice sl76 rfl rfl rfl rfl (fun h => by cases h) 0 i cl (.inl ⟨rfl, rfl⟩) (.inr ⟨_, _, rfl, by omega⟩) (.inl ⟨rfl, rfl⟩) ⟨by omega, by omega, by omega⟩ (.slice (some ⟨bl, 0, none⟩) i cl) (by rw [if_neg (by omega)]; simp [add_at])) ?_
  refine f_step rfl rfl rfl (o_append el76 rfl rfl (Own.nil _ _) (ys := (R.lts.take i).flatMap ltCs) (rds_of _ _ fun j v hj => rdA (take_read hj)) (by rw [flat_length ltCs ltCs_len, List.length_take, Nat.min_eq_left (by omega)]) (lts_one _) (by omega) (by omega) fun v12 m12 o12 => ?_)
  refine f_stepP rfl rfl rfl (o_assign rfl) ?_
  refine f_done ?_
  refine f_tn (kh2 _ _ ?_)
  clear kh2
  refine f_region ?_
  refine f_stepP rfl rfl rfl (o_move rfl) ?_
  refine f_stepP rfl rfl rfl (o_move rfl) ?_
  refine f_stepP rfl rfl rfl (o_move rfl) ?_
  refine f_stepP rfl rfl rfl (o_nil rfl) ?_
  refine f_stepP rfl rfl rfl (o_field fa78_1 rfl) ?_
  refine f_stepP rfl rfl rfl (o_load Try.isAgg76 rfl (rdA rfl)) ?_
  refine f_stepP rfl rfl rfl (o_move rfl) ?_
  refine f_stepP rfl rfl rfl (o_add rfl rfl _ (wrap_i64 (by omega))) ?_
  refine f_stepP rfl rfl rfl (o_slice sl76 rfl rfl rfl rfl (fun h => by cases h) (i + 1) _ _ (.inr ⟨_, _, rfl, by omega⟩) (.inl ⟨rfl, rfl⟩) (.inl ⟨rfl, rfl⟩) ⟨by omega, by omega, by omega⟩ (.slice (some ⟨bl, if cl = i + 1 then 0 else (i + 1) * 3, none⟩) (R.lts.length - (i + 1)) (cl - (i + 1))) (by split <;> simp [add_at])) ?_
  refine f_step rfl rfl rfl (o_append el76 rfl rfl o12 (ys := (R.lts.drop (i + 1)).flatMap ltCs) (by split; (rw [show R.lts.drop (i + 1) = [] from List.drop_eq_nil_of_le (by omega)]; trivial); exact rds_of _ _ fun j u hj => rdA (drop_read ltCs_len (by omega) hj)) (by rw [flat_length ltCs ltCs_len, List.length_drop]) (lts_one _) (by omega) (by omega) fun v22 m22 o22 => ?_)
  rw [show 0 + i + (R.lts.length - (i + 1)) = (R.lts.eraseIdx i).length by rw [List.length_eraseIdx_of_lt hi]; omega, show ([] ++ (R.lts.take i).flatMap ltCs) ++ (R.lts.drop (i + 1)).flatMap ltCs = (R.lts.eraseIdx i).flatMap ltCs by rw [List.nil_append, ← List.flatMap_append, ← List.eraseIdx_eq_take_drop_succ]] at o22
  obtain ⟨A22, c22, rfl, _⟩ := o22.val
  refine f_stepP rfl rfl rfl (o_nil rfl) ?_
  refine f_stepP rfl rfl rfl (o_field fa78_1 rfl) ?_
  refine f_step0 rfl rfl (o_store Try.sizeOf76 rfl rfl rfl rfl (by first | exact Nat.le_of_ble_eq_true rfl | (simp; done) | (simp; omega)) [.slice Au R.up.length cu, .slice A22 (R.lts.eraseIdx i).length c22, .slice At_ R.tim.length ct, .int .i64 R.clk] rfl ?_)
  refine f_done ?_
  exact f_fin0n [(rSegs (R.drop i) bn (.slice Au R.up.length cu) (.slice A22 (R.lts.eraseIdx i).length c22) (.slice At_ R.tim.length ct) mu m22 mt).flatten] Try.results61 (Sub.flat (by repeat (first | exact Sub.nil | refine Sub.pick ?_))) ⟨_, rfl, RNet.mk (hA.put o22 (by have := List.length_eraseIdx_of_lt hi; omega))⟩

set_option maxRecDepth 100000 in
set_option maxHeartbeats 4000000 in
theorem RTake_spec (R : NetR) (bn : Nat) (m : Seg) (l : Int × Int) (k : Int) (w : World) (hN : RNet R bn m) (ho : Owns w [m]) :
    Meets Try.prog 41 [.pointer (some ⟨bn, 0, none⟩), .int .i64 l.1, .int .i64 l.2, .int .i64 k] w [m] (fun u own' => u = .tuple #[.string (R.take l k).1.1, .int .i64 (R.take l k).1.2] ∧ ∃ m', own' = [m'] ∧ RNet (R.take l k).2 bn m') := by
  refine f_enter Try.func41 rfl Try.ntmps41 rfl ho ?_
  refine f_seq fun K1 kh1 => ?_
  refine f_region ?_
  refine f_stepP rfl rfl rfl (o_assign rfl) ?_
  refine f_stepP rfl rfl rfl (o_assign rfl) ?_
  refine f_done ?_
  refine f_tn (kh1 _ _ ?_)
  clear kh1
  refine f_seq fun K2 kh2 => ?_
  refine f_region ?_
  refine f_stepP rfl rfl rfl (o_move rfl) ?_
  refine f_stepP rfl rfl rfl (o_move rfl) ?_
  refine f_stepP rfl rfl rfl (o_move rfl) ?_
  refine f_stepP rfl rfl rfl (o_move rfl) ?_
  refine f_step rfl rfl rfl (o_callM [m] _ Try.call60 rfl (Sub.pick (Sub.refl)) (fun w_ hp_ => Rfind_spec R bn m l k w_ hN hp_.owns) ?_)
  rintro _ _ ⟨rfl, m2, rfl, hN2⟩
  dsimp only [List.cons_append, List.nil_append]
  refine f_stepP rfl rfl rfl (o_move rfl) ?_
  refine f_stepP rfl rfl rfl (o_extract rfl rfl) ?_
  refine f_stepP rfl rfl rfl (o_extract rfl rfl) ?_
  refine f_stepP rfl rfl rfl (o_assign rfl) ?_
  refine f_stepP rfl rfl rfl (o_assign rfl) ?_
  refine f_done ?_
  refine f_tn (kh2 _ _ ?_)
  clear kh2
  refine f_seq fun K3 kh3 => ?_
  refine f_seq fun K4 kh4 => ?_
  refine f_region ?_
  refine f_stepP rfl rfl rfl (o_move rfl) ?_
  refine f_stepP rfl rfl rfl (o_neq rfl rfl) ?_
  refine f_done ?_
  refine f_tn (kh4 _ _ ?_)
  clear kh4
  refine f_cond rfl (fun c22 => ?_) (fun c22 => ?_)
  · skip
    refine f_seq fun K5 kh5 => ?_
    refine f_region ?_
    refine f_stepP rfl rfl rfl (o_move rfl) ?_
    refine f_stepP rfl rfl rfl (o_assign rfl) ?_
    refine f_stepP rfl rfl rfl (o_assign rfl) ?_
    refine f_done ?_
    refine f_tn (kh5 _ _ ?_)
    clear kh5
    refine f_ret ?_
    refine f_tr ?_
    have e : R.take l k = ((⟨#[]⟩, (R.find l k).2), R) := if_pos c22
    exact f_fin2 [m2] Try.results41 rfl rfl (by repeat (first | exact Sub.nil | refine Sub.pick ?_)) ⟨by rw [e], _, rfl, by rw [e]; exact hN2⟩
  · skip
    have hf : (R.find l k).2 = 0 := by simpa using c22
    obtain ⟨hb, hk0, hk1, _⟩ := NetR.find_zero hf
    obtain ⟨hit, hie, _, _⟩ := NetR.find_at hf
    generalize (R.find l k).1.toNat = i at hit hie
    rw [hie]
    obtain ⟨uv, lv, tv, mu, ml, mt, hm, hA⟩ := hN2
    refine f_subC (Sub.opened hm) ?_
    dsimp only [rSegs, List.cons_append, List.nil_append]
    obtain ⟨Au, cu, rfl, hcu⟩ := hA.up.val
    obtain ⟨Al, cl, rfl, hcl⟩ := hA.lts.val
    obtain ⟨At_, ct, rfl, hct⟩ := hA.tim.val
    have hltl := hA.ltl
    have hk : l.2.toNat < R.up.length := by unfold NetR.Bad NetR.Non at hb; omega
    refine f_skip ?_
    refine f_tn (kh3 _ _ ?_)
    clear kh3
    refine f_seq fun K6 kh6 => ?_
    refine f_seq fun K7 kh7 => ?_
    refine f_region ?_
    refine f_stepP rfl rfl rfl (o_move rfl) ?_
    refine f_stepP rfl rfl rfl (o_nil rfl) ?_
    refine f_stepP rfl rfl rfl (o_field fa78_0 rfl) ?_
    refine f_stepP rfl rfl rfl (o_load Try.isAgg56 rfl (rdA rfl)) ?_
    refine f_stepP rfl rfl rfl (o_move rfl) ?_
    obtain ⟨bu, spu, rfl, rfl⟩ := hA.up.at_ (by omega)
    refine f_stepP rfl rfl rfl (o_idx sl56 rfl rfl (l.2.toNat) ⟨by omega, by omega, by first | omega | (simp; done) | (simp; omega)⟩) ?_
    refine f_stepP rfl rfl rfl (o_load Try.isAgg4 rfl (rdA (app_get (bools_get hk)))) ?_
    refine f_stepP rfl rfl rfl (o_not rfl) ?_
    refine f_done ?_
    refine f_tn (kh7 _ _ ?_)
    clear kh7
    refine f_condB rfl (fun c31 => ?_) (fun c31 => ?_)
    · skip
      refine f_seq fun K8 kh8 => ?_
      refine f_region ?_
      refine f_stepP rfl rfl rfl (o_assign rfl) ?_
      refine f_stepP rfl rfl rfl (o_assign rfl) ?_
      refine f_done ?_
      refine f_tn (kh8 _ _ ?_)
      clear kh8
      refine f_ret ?_
      refine f_tr ?_
      have e : R.take l k = ((⟨#[]⟩, 191), R) := by rw [NetR.take, if_neg (by rw [hf]; simp), if_pos (by rw [up_at hk]; simpa using c31)]
      exact f_fin2 [(rSegs R bn (.slice (some ⟨bu, 0, none⟩) R.up.length cu) (.slice Al R.lts.length cl) (.slice At_ R.tim.length ct) ([(bu, blk (bools R.up ++ spu) 4)]) ml mt).flatten] Try.results41 rfl rfl (Sub.flat (by repeat (first | exact Sub.nil | refine Sub.pick ?_))) ⟨by rw [e], _, rfl, by rw [e]; exact RNet.mk hA⟩
    · skip
      refine f_skip ?_
      refine f_tn (kh6 _ _ ?_)
      clear kh6
      refine f_seq fun K9 kh9 => ?_
      refine f_region ?_
      refine f_stepP rfl rfl rfl (o_move rfl) ?_
      refine f_stepP rfl rfl rfl (o_nil rfl) ?_
      refine f_stepP rfl rfl rfl (o_field fa78_1 rfl) ?_
      refine f_stepP rfl rfl rfl (o_load Try.isAgg76 rfl (rdA rfl)) ?_
      refine f_stepP rfl rfl rfl (o_move rfl) ?_
      obtain ⟨bl, spl, rfl, rfl⟩ := hA.lts.at_ (by omega)
      refine f_stepP rfl rfl rfl (o_idx sl76 rfl rfl (i * 3) ⟨by omega, by omega, by first | omega | (simp; done) | (simp; omega)⟩) ?_
      refine f_stepP rfl rfl rfl (o_field fa89_2 rfl) ?_
      refine f_stepP rfl rfl rfl (o_load Try.isAgg9 rfl (rdOwn ltCs_len hit rfl)) ?_
      refine f_stepP rfl rfl rfl (o_assign rfl) ?_
      refine f_done ?_
      refine f_tn (kh9 _ _ ?_)
      clear kh9
      refine f_seq fun K10 kh10 => ?_
      refine f_subC (Sub.flat (out := rSegs R bn (.slice (some ⟨bu, 0, none⟩) R.up.length cu) (.slice (some ⟨bl, 0, none⟩) R.lts.length cl) (.slice At_ R.tim.length ct) ([(bu, blk (bools R.up ++ spu) 4)]) ([(bl, blk (R.lts.flatMap ltCs ++ spl) 89)]) (mt)) (by repeat (first | exact Sub.nil | refine Sub.pick ?_))) ?_
      have hN1 : RNet R bn (rSegs R bn (.slice (some ⟨bu, 0, none⟩) R.up.length cu) (.slice (some ⟨bl, 0, none⟩) R.lts.length cl) (.slice At_ R.tim.length ct) ([(bu, blk (bools R.up ++ spu) 4)]) ([(bl, blk (R.lts.flatMap ltCs ++ spl) 89)]) (mt)).flatten := RNet.mk hA
      generalize (rSegs R bn (.slice (some ⟨bu, 0, none⟩) R.up.length cu) (.slice (some ⟨bl, 0, none⟩) R.lts.length cl) (.slice At_ R.tim.length ct) ([(bu, blk (bools R.up ++ spu) 4)]) ([(bl, blk (R.lts.flatMap ltCs ++ spl) 89)]) (mt)).flatten = m1 at hN1 ⊢
      refine f_region ?_
      refine f_stepP rfl rfl rfl (o_move rfl) ?_
      refine f_stepP rfl rfl rfl (o_move rfl) ?_
      refine f_step rfl rfl rfl (o_callM [m1] _ Try.call61 rfl (Sub.pick (Sub.refl)) (fun w_ hp_ => Rdrop_spec R bn m1 i w_ hN1 hit hp_.owns) ?_)
      rintro _ _ ⟨m3, rfl, hN3⟩
      dsimp only [List.cons_append, List.nil_append]
      refine f_done ?_
      refine f_tn (kh10 _ _ ?_)
      clear kh10
      refine f_seq fun K11 kh11 => ?_
      refine f_region ?_
      refine f_stepP rfl rfl rfl (o_move rfl) ?_
      refine f_stepP rfl rfl rfl (o_assign rfl) ?_
      refine f_stepP rfl rfl rfl (o_assign rfl) ?_
      refine f_done ?_
      refine f_tn (kh11 _ _ ?_)
      clear kh11
      refine f_ret ?_
      have e : R.take l k = ((R.lts[i].2.2, 0), R.drop i) := by rw [NetR.take, if_neg (by rw [hf]; simp), if_neg (by rw [up_at hk]; simpa using c31), hie]; simp [NetR.body, hit]
      exact f_fin2 [m3] Try.results41 rfl rfl (by repeat (first | exact Sub.nil | refine Sub.pick ?_)) ⟨by rw [e], _, rfl, by rw [e]; exact hN3⟩

set_option maxRecDepth 100000 in
set_option maxHeartbeats 4000000 in
theorem RLose_spec (R : NetR) (bn : Nat) (m : Seg) (l : Int × Int) (k : Int) (w : World) (hN : RNet R bn m) (ho : Owns w [m]) :
    Meets Try.prog 43 [.pointer (some ⟨bn, 0, none⟩), .int .i64 l.1, .int .i64 l.2, .int .i64 k] w [m] (fun u own' => u = .int .i64 (R.lose l k).1 ∧ ∃ m', own' = [m'] ∧ RNet (R.lose l k).2 bn m') := by
  refine f_enter Try.func43 rfl Try.ntmps43 rfl ho ?_
  refine f_seq fun K1 kh1 => ?_
  refine f_region ?_
  refine f_stepP rfl rfl rfl (o_assign rfl) ?_
  refine f_done ?_
  refine f_tn (kh1 _ _ ?_)
  clear kh1
  refine f_seq fun K2 kh2 => ?_
  refine f_region ?_
  refine f_stepP rfl rfl rfl (o_move rfl) ?_
  refine f_stepP rfl rfl rfl (o_move rfl) ?_
  refine f_stepP rfl rfl rfl (o_move rfl) ?_
  refine f_stepP rfl rfl rfl (o_move rfl) ?_
  refine f_step rfl rfl rfl (o_callM [m] _ Try.call60 rfl (Sub.pick (Sub.refl)) (fun w_ hp_ => Rfind_spec R bn m l k w_ hN hp_.owns) ?_)
  rintro _ _ ⟨rfl, m2, rfl, hN2⟩
  dsimp only [List.cons_append, List.nil_append]
  refine f_stepP rfl rfl rfl (o_move rfl) ?_
  refine f_stepP rfl rfl rfl (o_extract rfl rfl) ?_
  refine f_stepP rfl rfl rfl (o_extract rfl rfl) ?_
  refine f_stepP rfl rfl rfl (o_assign rfl) ?_
  refine f_stepP rfl rfl rfl (o_assign rfl) ?_
  refine f_done ?_
  refine f_tn (kh2 _ _ ?_)
  clear kh2
  refine f_seq fun K3 kh3 => ?_
  refine f_seq fun K4 kh4 => ?_
  refine f_region ?_
  refine f_stepP rfl rfl rfl (o_move rfl) ?_
  refine f_stepP rfl rfl rfl (o_neq rfl rfl) ?_
  refine f_done ?_
  refine f_tn (kh4 _ _ ?_)
  clear kh4
  refine f_cond rfl (fun c20 => ?_) (fun c20 => ?_)
  · skip
    refine f_seq fun K5 kh5 => ?_
    refine f_region ?_
    refine f_stepP rfl rfl rfl (o_move rfl) ?_
    refine f_stepP rfl rfl rfl (o_assign rfl) ?_
    refine f_done ?_
    refine f_tn (kh5 _ _ ?_)
    clear kh5
    refine f_ret ?_
    refine f_tr ?_
    have e : R.lose l k = ((R.find l k).2, R) := if_pos c20
    exact f_fin1 [m2] Try.results43 rfl (by repeat (first | exact Sub.nil | refine Sub.pick ?_)) ⟨by rw [e], _, rfl, by rw [e]; exact hN2⟩
  · skip
    have hf : (R.find l k).2 = 0 := by simpa using c20
    obtain ⟨hb, hk0, hk1, _⟩ := NetR.find_zero hf
    obtain ⟨hit, hie, _, _⟩ := NetR.find_at hf
    generalize (R.find l k).1.toNat = i at hit hie
    rw [hie]
    
    refine f_skip ?_
    refine f_tn (kh3 _ _ ?_)
    clear kh3
    refine f_seq fun K6 kh6 => ?_
    refine f_region ?_
    refine f_stepP rfl rfl rfl (o_move rfl) ?_
    refine f_stepP rfl rfl rfl (o_move rfl) ?_
    refine f_step rfl rfl rfl (o_callM [m2] _ Try.call61 rfl (Sub.pick (Sub.refl)) (fun w_ hp_ => Rdrop_spec R bn m2 i w_ hN2 hit hp_.owns) ?_)
    rintro _ _ ⟨m3, rfl, hN3⟩
    dsimp only [List.cons_append, List.nil_append]
    refine f_done ?_
    refine f_tn (kh6 _ _ ?_)
    clear kh6
    refine f_seq fun K7 kh7 => ?_
    refine f_region ?_
    refine f_stepP rfl rfl rfl (o_assign rfl) ?_
    refine f_done ?_
    refine f_tn (kh7 _ _ ?_)
    clear kh7
    refine f_ret ?_
    have e : R.lose l k = (0, R.drop i) := by rw [NetR.lose, if_neg (by rw [hf]; simp), hie]; rfl
    exact f_fin1 [m3] Try.results43 rfl (by repeat (first | exact Sub.nil | refine Sub.pick ?_)) ⟨by rw [e], _, rfl, by rw [e]; exact hN3⟩

set_option maxRecDepth 100000 in
set_option maxHeartbeats 4000000 in
theorem RCopy_spec (R : NetR) (bn : Nat) (m : Seg) (l : Int × Int) (k : Int) (w : World) (hN : RNet R bn m) (hle : R.lts.length < 1000000) (ho : Owns w [m]) :
    Meets Try.prog 42 [.pointer (some ⟨bn, 0, none⟩), .int .i64 l.1, .int .i64 l.2, .int .i64 k] w [m] (fun u own' => u = .int .i64 (R.copy l k).1 ∧ ∃ m', own' = [m'] ∧ RNet (R.copy l k).2 bn m') := by
  refine f_enter Try.func42 rfl Try.ntmps42 rfl ho ?_
  refine f_seq fun K1 kh1 => ?_
  refine f_region ?_
  refine f_stepP rfl rfl rfl (o_assign rfl) ?_
  refine f_done ?_
  refine f_tn (kh1 _ _ ?_)
  clear kh1
  refine f_seq fun K2 kh2 => ?_
  refine f_region ?_
  refine f_stepP rfl rfl rfl (o_move rfl) ?_
  refine f_stepP rfl rfl rfl (o_move rfl) ?_
  refine f_stepP rfl rfl rfl (o_move rfl) ?_
  refine f_stepP rfl rfl rfl (o_move rfl) ?_
  refine f_step rfl rfl rfl (o_callM [m] _ Try.call60 rfl (Sub.pick (Sub.refl)) (fun w_ hp_ => Rfind_spec R bn m l k w_ hN hp_.owns) ?_)
  rintro _ _ ⟨rfl, m2, rfl, hN2⟩
  dsimp only [List.cons_append, List.nil_append]
  refine f_stepP rfl rfl rfl (o_move rfl) ?_
  refine f_stepP rfl rfl rfl (o_extract rfl rfl) ?_
  refine f_stepP rfl rfl rfl (o_extract rfl rfl) ?_
  refine f_stepP rfl rfl rfl (o_assign rfl) ?_
  refine f_stepP rfl rfl rfl (o_assign rfl) ?_
  refine f_done ?_
  refine f_tn (kh2 _ _ ?_)
  clear kh2
  refine f_seq fun K3 kh3 => ?_
  refine f_seq fun K4 kh4 => ?_
  refine f_region ?_
  refine f_stepP rfl rfl rfl (o_move rfl) ?_
  refine f_stepP rfl rfl rfl (o_neq rfl rfl) ?_
  refine f_done ?_
  refine f_tn (kh4 _ _ ?_)
  clear kh4
  refine f_cond rfl (fun c20 => ?_) (fun c20 => ?_)
  · skip
    refine f_seq fun K5 kh5 => ?_
    refine f_region ?_
    refine f_stepP rfl rfl rfl (o_move rfl) ?_
    refine f_stepP rfl rfl rfl (o_assign rfl) ?_
    refine f_done ?_
    refine f_tn (kh5 _ _ ?_)
    clear kh5
    refine f_ret ?_
    refine f_tr ?_
    have e : R.copy l k = ((R.find l k).2, R) := if_pos c20
    exact f_fin1 [m2] Try.results42 rfl (by repeat (first | exact Sub.nil | refine Sub.pick ?_)) ⟨by rw [e], _, rfl, by rw [e]; exact hN2⟩
  · skip
    have hf : (R.find l k).2 = 0 := by simpa using c20
    obtain ⟨hb, hk0, hk1, _⟩ := NetR.find_zero hf
    obtain ⟨hit, hie, _, _⟩ := NetR.find_at hf
    generalize (R.find l k).1.toNat = i at hit hie
    rw [hie]
    
    refine f_skip ?_
    refine f_tn (kh3 _ _ ?_)
    clear kh3
    refine f_seq fun K6 kh6 => ?_
    refine f_seq fun K7 kh7 => ?_
    refine f_region ?_
    refine f_stepP rfl rfl rfl (o_move rfl) ?_
    refine f_stepP rfl rfl rfl (o_move rfl) ?_
    refine f_stepP rfl rfl rfl (o_move rfl) ?_
    refine f_step rfl rfl rfl (o_callM [m2] _ Try.call59 rfl (Sub.pick (Sub.refl)) (fun w_ hp_ => Rbag_spec R bn m2 l w_ hN2 hp_.owns) ?_)
    rintro vi _ ⟨mi, m3, rfl, hN3, hoi⟩
    obtain ⟨Ai, ci, rfl, hci⟩ := hoi.val
    dsimp only [List.cons_append, List.nil_append]
    refine f_stepP rfl rfl rfl (o_len sl74 rfl) ?_
    refine f_stepP rfl rfl rfl (o_geq rfl rfl) ?_
    refine f_done ?_
    refine f_tn (kh7 _ _ ?_)
    clear kh7
    refine f_cond rfl (fun c27 => ?_) (fun c27 => ?_)
    · skip
      refine f_seq fun K8 kh8 => ?_
      refine f_region ?_
      refine f_stepP rfl rfl rfl (o_assign rfl) ?_
      refine f_done ?_
      refine f_tn (kh8 _ _ ?_)
      clear kh8
      refine f_ret ?_
      refine f_tr ?_
      have e : R.copy l k = (2, R) := by rw [NetR.copy, if_neg (by rw [hf]; simp), if_pos (by omega)]
      exact f_fin1 [m3] Try.results42 rfl (by repeat (first | exact Sub.nil | refine Sub.pick ?_)) ⟨by rw [e], _, rfl, by rw [e]; exact hN3⟩
    · skip
      obtain ⟨uv, lv, tv, mu, ml, mt, hm, hA⟩ := hN3
      refine f_subC (Sub.opened hm) ?_
      dsimp only [rSegs, List.cons_append, List.nil_append]
      obtain ⟨Au, cu, rfl, hcu⟩ := hA.up.val
      obtain ⟨Al, cl, rfl, hcl⟩ := hA.lts.val
      obtain ⟨At_, ct, rfl, hct⟩ := hA.tim.val
      have hltl := hA.ltl
      obtain ⟨bl, spl, rfl, rfl⟩ := hA.lts.at_ (by omega)
      refine f_skip ?_
      refine f_tn (kh6 _ _ ?_)
      clear kh6
      refine f_seq fun K9 kh9 => ?_
      refine f_regionH [] rfl ?_
      refine f_take 0 rfl (by decide +kernel) rfl rfl rfl (by repeat (first | exact Sub.nil | refine Sub.pick ?_ | refine Sub.castO rfl ?_ | refine Sub.skip ?_)) (o_move rfl) ?_
      refine f_take 1 rfl (by decide +kernel) rfl rfl rfl (by repeat (first | exact Sub.nil | refine Sub.pick ?_ | refine Sub.castO rfl ?_ | refine Sub.skip ?_)) (o_move rfl) ?_
      refine f_take 2 rfl (by decide +kernel) rfl rfl rfl (by repeat (first | exact Sub.nil | refine Sub.pick ?_ | refine Sub.castO rfl ?_ | refine Sub.skip ?_)) (o_nil rfl) ?_
      refine f_take 3 rfl (by decide +kernel) rfl rfl rfl (by repeat (first | exact Sub.nil | refine Sub.pick ?_ | refine Sub.castO rfl ?_ | refine Sub.skip ?_)) (o_field fa78_1 rfl) ?_
      refine f_take 5 rfl (by decide +kernel) rfl rfl rfl (by repeat (first | exact Sub.nil | refine Sub.pick ?_ | refine Sub.castO rfl ?_ | refine Sub.skip ?_)) (o_move rfl) ?_
      refine f_take 6 rfl (by decide +kernel) rfl rfl rfl (by repeat (first | exact Sub.nil | refine Sub.pick ?_ | refine Sub.castO rfl ?_ | refine Sub.skip ?_)) (o_nil rfl) ?_
      refine f_take 7 rfl (by decide +kernel) rfl rfl rfl (by repeat (first | exact Sub.nil | refine Sub.pick ?_ | refine Sub.castO rfl ?_ | refine Sub.skip ?_)) (o_field fa78_1 rfl) ?_
      refine f_take 9 rfl (by decide +kernel) rfl rfl rfl (by repeat (first | exact Sub.nil | refine Sub.pick ?_ | refine Sub.castO rfl ?_ | refine Sub.skip ?_)) (o_move rfl) ?_
      refine f_two 4 8 rfl rfl (by decide +kernel) rfl rfl rfl rfl rfl rfl ?_ ?_
      · skip
        refine (o_load Try.isAgg76 rfl (rdA rfl)).does ⟨(by repeat (first | exact Sub.nil | refine Sub.pick ?_ | refine Sub.castO rfl ?_ | refine Sub.skip ?_)), ?_⟩
        refine f_only 8 rfl (by decide +kernel) rfl rfl rfl ((o_load Try.isAgg76 rfl (rdA rfl)).does ⟨(by repeat (first | exact Sub.nil | refine Sub.pick ?_ | refine Sub.castO rfl ?_ | refine Sub.skip ?_)), ?_⟩)
        refine f_take 10 rfl (by decide +kernel) rfl rfl rfl (by repeat (first | exact Sub.nil | refine Sub.pick ?_ | refine Sub.castO rfl ?_ | refine Sub.skip ?_)) (o_idx sl76 rfl rfl (i * 3) ⟨by omega, by omega, by first | omega | (simp; done) | (simp; omega)⟩) ?_
        refine f_only 11 rfl (by decide +kernel) rfl rfl rfl ((o_loadA (vs := ltCs R.lts[i]) Try.isAgg89 Try.sizeOf89 rfl rfl (rdsOwn ltCs_len hit)).does ⟨(by repeat (first | exact Sub.nil | refine Sub.pick ?_ | refine Sub.castO rfl ?_ | refine Sub.skip ?_)), ?_⟩)
        refine f_only 12 rfl (by decide +kernel) rfl rfl rfl (o_slice1 el76 (by omega) rfl rfl rfl fun b40 => ⟨(by repeat (first | exact Sub.nil | refine Sub.pick ?_ | refine Sub.castO rfl ?_ | refine Sub.skip ?_)), ?_⟩)
        refine f_only 13 rfl (by decide +kernel) rfl rfl rfl (o_append el76 rfl rfl hA.lts (ys := ltCs R.lts[i]) ⟨(rdA rfl), (rdA rfl), (rdA rfl), trivial⟩ rfl rfl (by omega) (by omega) fun v41 m41 o41 => ⟨(by repeat (first | exact Sub.nil | refine Sub.pick ?_ | refine Sub.castO rfl ?_ | refine Sub.skip ?_)), ?_⟩)
        obtain ⟨A41, c41, rfl, _⟩ := o41.val
        refine f_take 14 rfl (by decide +kernel) rfl rfl rfl (by repeat (first | exact Sub.nil | refine Sub.pick ?_ | refine Sub.castO rfl ?_ | refine Sub.skip ?_)) (o_nil rfl) ?_
        refine f_take 15 rfl (by decide +kernel) rfl rfl rfl (by repeat (first | exact Sub.nil | refine Sub.pick ?_ | refine Sub.castO rfl ?_ | refine Sub.skip ?_)) (o_field fa78_1 rfl) ?_
        refine f_only0 16 rfl (by decide +kernel) rfl rfl (o_store Try.sizeOf76 rfl rfl rfl rfl (by first | exact Nat.le_of_ble_eq_true rfl | (simp; done) | (simp; omega)) [.slice Au R.up.length cu, .slice A41 (R.lts.length + 1) c41, .slice At_ R.tim.length ct, .int .i64 R.clk] rfl ⟨(by repeat (first | exact Sub.nil | refine Sub.pick ?_ | refine Sub.castO rfl ?_ | refine Sub.skip ?_)), ?_⟩)
        refine f_over (by decide +kernel) ?_
        refine f_tn (kh9 _ _ ?_)
        clear kh9
        refine f_seq fun K10 kh10 => ?_
        refine f_region ?_
        refine f_stepP rfl rfl rfl (o_assign rfl) ?_
        refine f_done ?_
        refine f_tn (kh10 _ _ ?_)
        clear kh10
        refine f_ret ?_
        have e : R.copy l k = (0, { R with lts := R.lts ++ [R.lts[i]] }) := by rw [NetR.copy, if_neg (by rw [hf]; simp), if_neg (by omega), hie]; simp [hit]
        exact f_fin1 [(rSegs { R with lts := R.lts ++ [R.lts[i]] } bn (.slice Au R.up.length cu) (.slice A41 (R.lts.length + 1) c41) (.slice At_ R.tim.length ct) mu m41 mt).flatten] Try.results42 rfl (Sub.flat (by repeat (first | exact Sub.nil | refine Sub.pick ?_))) ⟨by rw [e], _, rfl, by rw [e]; exact RNet.mk (hA.put (by rw [List.length_append, List.flatMap_append]; simpa using o41) (by rw [List.length_append]; simp; omega))⟩
      · skip
        refine (o_load Try.isAgg76 rfl (rdA rfl)).does ⟨(by repeat (first | exact Sub.nil | refine Sub.pick ?_ | refine Sub.castO rfl ?_ | refine Sub.skip ?_)), ?_⟩
        refine f_take 10 rfl (by decide +kernel) rfl rfl rfl (by repeat (first | exact Sub.nil | refine Sub.pick ?_ | refine Sub.castO rfl ?_ | refine Sub.skip ?_)) (o_idx sl76 rfl rfl (i * 3) ⟨by omega, by omega, by first | omega | (simp; done) | (simp; omega)⟩) ?_
        refine f_two 4 11 rfl rfl (by decide +kernel) rfl rfl rfl rfl rfl rfl ?_ ?_
        · skip
          refine (o_load Try.isAgg76 rfl (rdA rfl)).does ⟨(by repeat (first | exact Sub.nil | refine Sub.pick ?_ | refine Sub.castO rfl ?_ | refine Sub.skip ?_)), ?_⟩
          refine f_only 11 rfl (by decide +kernel) rfl rfl rfl ((o_loadA (vs := ltCs R.lts[i]) Try.isAgg89 Try.sizeOf89 rfl rfl (rdsOwn ltCs_len hit)).does ⟨(by repeat (first | exact Sub.nil | refine Sub.pick ?_ | refine Sub.castO rfl ?_ | refine Sub.skip ?_)), ?_⟩)
          refine f_only 12 rfl (by decide +kernel) rfl rfl rfl (o_slice1 el76 (by omega) rfl rfl rfl fun b40 => ⟨(by repeat (first | exact Sub.nil | refine Sub.pick ?_ | refine Sub.castO rfl ?_ | refine Sub.skip ?_)), ?_⟩)
          refine f_only 13 rfl (by decide +kernel) rfl rfl rfl (o_append el76 rfl rfl hA.lts (ys := ltCs R.lts[i]) ⟨(rdA rfl), (rdA rfl), (rdA rfl), trivial⟩ rfl rfl (by omega) (by omega) fun v41 m41 o41 => ⟨(by repeat (first | exact Sub.nil | refine Sub.pick ?_ | refine Sub.castO rfl ?_ | refine Sub.skip ?_)), ?_⟩)
          obtain ⟨A41, c41, rfl, _⟩ := o41.val
          refine f_take 14 rfl (by decide +kernel) rfl rfl rfl (by repeat (first | exact Sub.nil | refine Sub.pick ?_ | refine Sub.castO rfl ?_ | refine Sub.skip ?_)) (o_nil rfl) ?_
          refine f_take 15 rfl (by decide +kernel) rfl rfl rfl (by repeat (first | exact Sub.nil | refine Sub.pick ?_ | refine Sub.castO rfl ?_ | refine Sub.skip ?_)) (o_field fa78_1 rfl) ?_
          refine f_only0 16 rfl (by decide +kernel) rfl rfl (o_store Try.sizeOf76 rfl rfl rfl rfl (by first | exact Nat.le_of_ble_eq_true rfl | (simp; done) | (simp; omega)) [.slice Au R.up.length cu, .slice A41 (R.lts.length + 1) c41, .slice At_ R.tim.length ct, .int .i64 R.clk] rfl ⟨(by repeat (first | exact Sub.nil | refine Sub.pick ?_ | refine Sub.castO rfl ?_ | refine Sub.skip ?_)), ?_⟩)
          refine f_over (by decide +kernel) ?_
          refine f_tn (kh9 _ _ ?_)
          clear kh9
          refine f_seq fun K11 kh11 => ?_
          refine f_region ?_
          refine f_stepP rfl rfl rfl (o_assign rfl) ?_
          refine f_done ?_
          refine f_tn (kh11 _ _ ?_)
          clear kh11
          refine f_ret ?_
          have e : R.copy l k = (0, { R with lts := R.lts ++ [R.lts[i]] }) := by rw [NetR.copy, if_neg (by rw [hf]; simp), if_neg (by omega), hie]; simp [hit]
          exact f_fin1 [(rSegs { R with lts := R.lts ++ [R.lts[i]] } bn (.slice Au R.up.length cu) (.slice A41 (R.lts.length + 1) c41) (.slice At_ R.tim.length ct) mu m41 mt).flatten] Try.results42 rfl (Sub.flat (by repeat (first | exact Sub.nil | refine Sub.pick ?_))) ⟨by rw [e], _, rfl, by rw [e]; exact RNet.mk (hA.put (by rw [List.length_append, List.flatMap_append]; simpa using o41) (by rw [List.length_append]; simp; omega))⟩
        · skip
          refine (o_loadA (vs := ltCs R.lts[i]) Try.isAgg89 Try.sizeOf89 rfl rfl (rdsOwn ltCs_len hit)).does ⟨(by repeat (first | exact Sub.nil | refine Sub.pick ?_ | refine Sub.castO rfl ?_ | refine Sub.skip ?_)), ?_⟩
          refine f_two 4 12 rfl rfl (by decide +kernel) rfl rfl rfl rfl rfl rfl ?_ ?_
          · skip
            refine (o_load Try.isAgg76 rfl (rdA rfl)).does ⟨(by repeat (first | exact Sub.nil | refine Sub.pick ?_ | refine Sub.castO rfl ?_ | refine Sub.skip ?_)), ?_⟩
            refine f_only 12 rfl (by decide +kernel) rfl rfl rfl (o_slice1 el76 (by omega) rfl rfl rfl fun b40 => ⟨(by repeat (first | exact Sub.nil | refine Sub.pick ?_ | refine Sub.castO rfl ?_ | refine Sub.skip ?_)), ?_⟩)
            refine f_only 13 rfl (by decide +kernel) rfl rfl rfl (o_append el76 rfl rfl hA.lts (ys := ltCs R.lts[i]) ⟨(rdA rfl), (rdA rfl), (rdA rfl), trivial⟩ rfl rfl (by omega) (by omega) fun v41 m41 o41 => ⟨(by repeat (first | exact Sub.nil | refine Sub.pick ?_ | refine Sub.castO rfl ?_ | refine Sub.skip ?_)), ?_⟩)
            obtain ⟨A41, c41, rfl, _⟩ := o41.val
            refine f_take 14 rfl (by decide +kernel) rfl rfl rfl (by repeat (first | exact Sub.nil | refine Sub.pick ?_ | refine Sub.castO rfl ?_ | refine Sub.skip ?_)) (o_nil rfl) ?_
            refine f_take 15 rfl (by decide +kernel) rfl rfl rfl (by repeat (first | exact Sub.nil | refine Sub.pick ?_ | refine Sub.castO rfl ?_ | refine Sub.skip ?_)) (o_field fa78_1 rfl) ?_
            refine f_only0 16 rfl (by decide +kernel) rfl rfl (o_store Try.sizeOf76 rfl rfl rfl rfl (by first | exact Nat.le_of_ble_eq_true rfl | (simp; done) | (simp; omega)) [.slice Au R.up.length cu, .slice A41 (R.lts.length + 1) c41, .slice At_ R.tim.length ct, .int .i64 R.clk] rfl ⟨(by repeat (first | exact Sub.nil | refine Sub.pick ?_ | refine Sub.castO rfl ?_ | refine Sub.skip ?_)), ?_⟩)
            refine f_over (by decide +kernel) ?_
            refine f_tn (kh9 _ _ ?_)
            clear kh9
            refine f_seq fun K12 kh12 => ?_
            refine f_region ?_
            refine f_stepP rfl rfl rfl (o_assign rfl) ?_
            refine f_done ?_
            refine f_tn (kh12 _ _ ?_)
            clear kh12
            refine f_ret ?_
            have e : R.copy l k = (0, { R with lts := R.lts ++ [R.lts[i]] }) := by rw [NetR.copy, if_neg (by rw [hf]; simp), if_neg (by omega), hie]; simp [hit]
            exact f_fin1 [(rSegs { R with lts := R.lts ++ [R.lts[i]] } bn (.slice Au R.up.length cu) (.slice A41 (R.lts.length + 1) c41) (.slice At_ R.tim.length ct) mu m41 mt).flatten] Try.results42 rfl (Sub.flat (by repeat (first | exact Sub.nil | refine Sub.pick ?_))) ⟨by rw [e], _, rfl, by rw [e]; exact RNet.mk (hA.put (by rw [List.length_append, List.flatMap_append]; simpa using o41) (by rw [List.length_append]; simp; omega))⟩
          · skip
            refine (o_slice1 el76 (by omega) rfl rfl rfl fun b40 => ⟨(by repeat (first | exact Sub.nil | refine Sub.pick ?_ | refine Sub.castO rfl ?_ | refine Sub.skip ?_)), ?_⟩)
            refine f_only 4 rfl (by decide +kernel) rfl rfl rfl ((o_load Try.isAgg76 rfl (rdA rfl)).does ⟨(by repeat (first | exact Sub.nil | refine Sub.pick ?_ | refine Sub.castO rfl ?_ | refine Sub.skip ?_)), ?_⟩)
            refine f_only 13 rfl (by decide +kernel) rfl rfl rfl (o_append el76 rfl rfl hA.lts (ys := ltCs R.lts[i]) ⟨(rdA rfl), (rdA rfl), (rdA rfl), trivial⟩ rfl rfl (by omega) (by omega) fun v41 m41 o41 => ⟨(by repeat (first | exact Sub.nil | refine Sub.pick ?_ | refine Sub.castO rfl ?_ | refine Sub.skip ?_)), ?_⟩)
            obtain ⟨A41, c41, rfl, _⟩ := o41.val
            refine f_take 14 rfl (by decide +kernel) rfl rfl rfl (by repeat (first | exact Sub.nil | refine Sub.pick ?_ | refine Sub.castO rfl ?_ | refine Sub.skip ?_)) (o_nil rfl) ?_
            refine f_take 15 rfl (by decide +kernel) rfl rfl rfl (by repeat (first | exact Sub.nil | refine Sub.pick ?_ | refine Sub.castO rfl ?_ | refine Sub.skip ?_)) (o_field fa78_1 rfl) ?_
            refine f_only0 16 rfl (by decide +kernel) rfl rfl (o_store Try.sizeOf76 rfl rfl rfl rfl (by first | exact Nat.le_of_ble_eq_true rfl | (simp; done) | (simp; omega)) [.slice Au R.up.length cu, .slice A41 (R.lts.length + 1) c41, .slice At_ R.tim.length ct, .int .i64 R.clk] rfl ⟨(by repeat (first | exact Sub.nil | refine Sub.pick ?_ | refine Sub.castO rfl ?_ | refine Sub.skip ?_)), ?_⟩)
            refine f_over (by decide +kernel) ?_
            refine f_tn (kh9 _ _ ?_)
            clear kh9
            refine f_seq fun K13 kh13 => ?_
            refine f_region ?_
            refine f_stepP rfl rfl rfl (o_assign rfl) ?_
            refine f_done ?_
            refine f_tn (kh13 _ _ ?_)
            clear kh13
            refine f_ret ?_
            have e : R.copy l k = (0, { R with lts := R.lts ++ [R.lts[i]] }) := by rw [NetR.copy, if_neg (by rw [hf]; simp), if_neg (by omega), hie]; simp [hit]
            exact f_fin1 [(rSegs { R with lts := R.lts ++ [R.lts[i]] } bn (.slice Au R.up.length cu) (.slice A41 (R.lts.length + 1) c41) (.slice At_ R.tim.length ct) mu m41 mt).flatten] Try.results42 rfl (Sub.flat (by repeat (first | exact Sub.nil | refine Sub.pick ?_))) ⟨by rw [e], _, rfl, by rw [e]; exact RNet.mk (hA.put (by rw [List.length_append, List.flatMap_append]; simpa using o41) (by rw [List.length_append]; simp; omega))⟩

set_option maxRecDepth 100000 in
set_option maxHeartbeats 4000000 in
theorem RBag_spec (R : NetR) (bn : Nat) (m : Seg) (l : Int × Int) (w : World) (hN : RNet R bn m) (ho : Owns w [m]) :
    Meets Try.prog 44 [.pointer (some ⟨bn, 0, none⟩), .int .i64 l.1, .int .i64 l.2] w [m]
      (fun u own' => ∃ s ms m', u = .tuple #[s, .int .i64 (R.looked l)] ∧ own' = [m', ms] ∧ RNet R bn m' ∧ Own 9 1 s (if R.looked l = 0 then R.bagS l else []).length (strs (if R.looked l = 0 then R.bagS l else [])) ms) := by
  refine f_enter Try.func44 rfl Try.ntmps44 rfl ho ?_
  refine f_seq fun K1 kh1 => ?_
  refine f_region ?_
  refine f_stepP rfl rfl rfl (o_assign rfl) ?_
  refine f_stepP rfl rfl rfl (o_assign rfl) ?_
  refine f_done ?_
  refine f_tn (kh1 _ _ ?_)
  clear kh1
  refine f_seq fun K2 kh2 => ?_
  refine f_seq fun K3 kh3 => ?_
  refine f_region ?_
  refine f_stepP rfl rfl rfl (o_move rfl) ?_
  refine f_stepP rfl rfl rfl (o_move rfl) ?_
  refine f_stepP rfl rfl rfl (o_move rfl) ?_
  refine f_step rfl rfl rfl (o_callM [m] _ Try.call58 rfl (Sub.pick (Sub.refl)) (fun w_ hp_ => Rnolink_spec R bn m l w_ hN hp_.owns) ?_)
  rintro _ _ ⟨rfl, rfl⟩
  dsimp only [List.cons_append, List.nil_append]
  refine f_done ?_
  refine f_tn (kh3 _ _ ?_)
  clear kh3
  refine f_cond rfl (fun c14 => ?_) (fun c14 => ?_)
  · skip
    refine f_seq fun K4 kh4 => ?_
    refine f_region ?_
    refine f_stepP rfl rfl rfl (o_assign rfl) ?_
    refine f_stepP rfl rfl rfl (o_assign rfl) ?_
    refine f_done ?_
    refine f_tn (kh4 _ _ ?_)
    clear kh4
    refine f_ret ?_
    refine f_tr ?_
    have e : R.looked l = 190 := if_pos c14
    exact f_fin2 [m, []] Try.results44 rfl rfl (Sub.trans (b := [m]) (by repeat (first | exact Sub.nil | refine Sub.pick ?_)) Sub.addNil2) ⟨_, _, _, by rw [e], rfl, hN, by rw [e, if_neg (by decide)]; exact Own.nil _ _⟩
  · skip
    have hl0 : R.looked l = 0 := if_neg c14
    refine f_skip ?_
    refine f_tn (kh2 _ _ ?_)
    clear kh2
    refine f_seq fun K5 kh5 => ?_
    refine f_region ?_
    refine f_stepP rfl rfl rfl (o_assign rfl) ?_
    refine f_done ?_
    refine f_tn (kh5 _ _ ?_)
    clear kh5
    refine f_seq fun K6 kh6 => ?_
    refine f_region ?_
    refine f_stepP rfl rfl rfl (o_move rfl) ?_
    refine f_stepP rfl rfl rfl (o_move rfl) ?_
    refine f_stepP rfl rfl rfl (o_move rfl) ?_
    refine f_step rfl rfl rfl (o_callM [m] _ Try.call59 rfl (Sub.pick (Sub.refl)) (fun w_ hp_ => Rbag_spec R bn m l w_ hN hp_.owns) ?_)
    rintro vi _ ⟨mi, m2, rfl, hN2, hoi⟩
    obtain ⟨Ai, ci, rfl, hci⟩ := hoi.val
    dsimp only [List.cons_append, List.nil_append]
    refine f_stepP rfl rfl rfl (o_assign rfl) ?_
    refine f_done ?_
    refine f_tn (kh6 _ _ ?_)
    clear kh6
    refine f_seq fun K7 kh7 => ?_
    refine f_seq fun K8 kh8 => ?_
    obtain ⟨uv, lv, tv, mu, ml, mt, hm, hA⟩ := hN2
    refine f_subC (Sub.opened hm) ?_
    dsimp only [rSegs, List.cons_append, List.nil_append]
    obtain ⟨Au, cu, rfl, hcu⟩ := hA.up.val
    obtain ⟨Al, cl, rfl, hcl⟩ := hA.lts.val
    obtain ⟨At_, ct, rfl, hct⟩ := hA.tim.val
    have hltl := hA.ltl
    have hsl := bagS_len R l
    have hil : (R.bagI l).length ≤ 1000000 := Nat.le_trans (idx_lt _ _ _) hltl
    refine f_region ?_
    refine f_stepP rfl rfl rfl (o_assign rfl) ?_
    refine f_done ?_
    refine f_tn (kh8 _ _ ?_)
    clear kh8
    refine f_block ?_
    refine f_loop (α := Nat × Value × Seg) [0, 9] (fun ⟨j, vo, mo⟩ => [(10, .int .i64 (j : Int)), (8, vo)]) (fun ⟨j, vo, mo⟩ => [[(bn, blk [.slice Au R.up.length cu, .slice Al R.lts.length cl, .slice At_ R.tim.length ct, .int .i64 R.clk] 78)], mu, ml, mt, mi, mo]) (fun ⟨j, vo, mo⟩ => j ≤ (R.bagI l).length ∧ Own 9 1 vo ((R.bagS l).take j).length (strs ((R.bagS l).take j)) mo) (fun ⟨j, vo, mo⟩ => (R.bagI l).length - j) (0, .slice none 0 0, []) ?_ ?_ ?_ ?_
    · exact (by repeat (first | exact trivial | refine ⟨rfl, ?_⟩))
    · repeat (first | exact Sub.nil | refine Sub.pick ?_ | refine Sub.castO rfl ?_ | refine Sub.skip ?_)
    · exact ⟨by omega, Own.nil _ _⟩
    · rintro ⟨j, vo, mo⟩ ⟨hjl, ho1⟩
      have htl : ((R.bagS l).take j).length ≤ 1000000 := by rw [List.length_take]; omega
      refine f_seq fun K9 kh9 => ?_
      refine f_seq fun K10 kh10 => ?_
      refine f_region ?_
      refine f_stepP rfl rfl rfl (o_move rfl) ?_
      refine f_stepP rfl rfl rfl (o_move rfl) ?_
      refine f_stepP rfl rfl rfl (o_len sl74 rfl) ?_
      refine f_stepP rfl rfl rfl (o_lss rfl rfl) ?_
      refine f_done ?_
      refine f_tn (kh10 _ _ ?_)
      clear kh10
      refine f_cond rfl (fun c22 => ?_) (fun c22 => ?_)
      · skip
        have hj : j < (R.bagI l).length := by omega
        obtain ⟨hbi, hbq⟩ := bag_at hj
        obtain ⟨bi, spi, rfl, rfl⟩ := hoi.at_ (by omega)
        obtain ⟨bl, spl, rfl, rfl⟩ := hA.lts.at_ (by omega)
        refine f_skip ?_
        refine f_tn (kh9 _ _ ?_)
        clear kh9
        refine f_seq fun K11 kh11 => ?_
        refine f_block ?_
        refine f_regionH [[(bn, blk [.slice Au R.up.length cu, .slice (some ⟨bl, 0, none⟩) R.lts.length cl, .slice At_ R.tim.length ct, .int .i64 R.clk] 78)], [(bi, blk (ints (nats (R.bagI l)) ++ spi) 3)], [(bl, blk (R.lts.flatMap ltCs ++ spl) 89)]] rfl ?_
        refine f_take 0 rfl (by decide +kernel) rfl rfl rfl (by repeat (first | exact Sub.nil | refine Sub.pick ?_ | refine Sub.castO rfl ?_ | refine Sub.skip ?_)) (o_move rfl) ?_
        refine f_take 1 rfl (by decide +kernel) rfl rfl rfl (by repeat (first | exact Sub.nil | refine Sub.pick ?_ | refine Sub.castO rfl ?_ | refine Sub.skip ?_)) (o_move rfl) ?_
        refine f_take 2 rfl (by decide +kernel) rfl rfl rfl (by repeat (first | exact Sub.nil | refine Sub.pick ?_ | refine Sub.castO rfl ?_ | refine Sub.skip ?_)) (o_nil rfl) ?_
        refine f_take 3 rfl (by decide +kernel) rfl rfl rfl (by repeat (first | exact Sub.nil | refine Sub.pick ?_ | refine Sub.castO rfl ?_ | refine Sub.skip ?_)) (o_field fa78_1 rfl) ?_
        refine f_take 4 rfl (by decide +kernel) rfl rfl rfl (by repeat (first | exact Sub.nil | refine Sub.pick ?_ | refine Sub.castO rfl ?_ | refine Sub.skip ?_)) (o_load Try.isAgg76 rfl (rdA rfl)) ?_
        refine f_take 5 rfl (by decide +kernel) rfl rfl rfl (by repeat (first | exact Sub.nil | refine Sub.pick ?_ | refine Sub.castO rfl ?_ | refine Sub.skip ?_)) (o_move rfl) ?_
        refine f_take 6 rfl (by decide +kernel) rfl rfl rfl (by repeat (first | exact Sub.nil | refine Sub.pick ?_ | refine Sub.castO rfl ?_ | refine Sub.skip ?_)) (o_move rfl) ?_
        refine f_take 7 rfl (by decide +kernel) rfl rfl rfl (by repeat (first | exact Sub.nil | refine Sub.pick ?_ | refine Sub.castO rfl ?_ | refine Sub.skip ?_)) (o_idx sl74 rfl rfl (j) ⟨by omega, by omega, by first | omega | (simp; done) | (simp; omega)⟩) ?_
        refine f_take 8 rfl (by decide +kernel) rfl rfl rfl (by repeat (first | exact Sub.nil | refine Sub.pick ?_ | refine Sub.castO rfl ?_ | refine Sub.skip ?_)) (o_load Try.isAgg3 rfl (rdA (v := .int .i64 (((R.bagI l).getD j 0 : Nat) : Int)) (app_get (nats_get hj)))) ?_
        refine f_take 9 rfl (by decide +kernel) rfl rfl rfl (by repeat (first | exact Sub.nil | refine Sub.pick ?_ | refine Sub.castO rfl ?_ | refine Sub.skip ?_)) (o_idx sl76 rfl rfl ((R.bagI l).getD j 0 * 3) ⟨by omega, by omega, by first | omega | (simp; done) | (simp; omega)⟩) ?_
        refine f_take 10 rfl (by decide +kernel) rfl rfl rfl (by repeat (first | exact Sub.nil | refine Sub.pick ?_ | refine Sub.castO rfl ?_ | refine Sub.skip ?_)) (o_field fa89_2 rfl) ?_
        refine f_take 11 rfl (by decide +kernel) rfl rfl rfl (by repeat (first | exact Sub.nil | refine Sub.pick ?_ | refine Sub.castO rfl ?_ | refine Sub.skip ?_)) (o_load Try.isAgg9 rfl (rdOwn ltCs_len hbi rfl)) ?_
        refine f_only 12 rfl (by decide +kernel) rfl rfl rfl (o_slice1 el32 (by omega) rfl rfl rfl fun b37 => ⟨(by repeat (first | exact Sub.nil | refine Sub.pick ?_ | refine Sub.castO rfl ?_ | refine Sub.skip ?_)), ?_⟩)
        refine f_only 13 rfl (by decide +kernel) rfl rfl rfl (o_append el32 rfl rfl ho1 (ys := [.string (R.lts[(R.bagI l).getD j 0]).2.2]) ⟨(rdA rfl), trivial⟩ rfl rfl (by omega) (by omega) fun v38 m38 o38 => ⟨(by repeat (first | exact Sub.nil | refine Sub.pick ?_ | refine Sub.castO rfl ?_ | refine Sub.skip ?_)), ?_⟩)
        refine f_only 14 rfl (by decide +kernel) rfl rfl rfl ((o_assign rfl).does ⟨(by repeat (first | exact Sub.nil | refine Sub.pick ?_ | refine Sub.castO rfl ?_ | refine Sub.skip ?_)), ?_⟩)
        refine f_over (by decide +kernel) ?_
        refine f_bn ?_
        refine f_tn (kh11 _ _ ?_)
        clear kh11
        refine f_region ?_
        refine f_stepP rfl rfl rfl (o_move rfl) ?_
        refine f_stepP rfl rfl rfl (o_add rfl rfl _ (wrap_i64 (by omega))) ?_
        refine f_stepP rfl rfl rfl (o_assign rfl) ?_
        refine f_done ?_
        refine f_tn (f_again (j + 1, v38, m38) (by first | omega | (dsimp only; omega) | (simp; omega)) ⟨by omega, by rw [List.take_add_one, hbq, Option.toList_some, List.length_append, strs_append]; exact o38⟩ ?_ ?_ ?_)
        · exact (by repeat (first | exact trivial | refine ⟨rfl, ?_⟩))
        · exact (by repeat (first | exact trivial | refine ⟨rfl, ?_⟩))
        · repeat (first | exact Sub.nil | refine Sub.pick ?_ | refine Sub.castO rfl ?_ | refine Sub.skip ?_)
      · skip
        refine f_exit ?_
        refine f_te ?_
        clear kh9
        refine f_te ?_
        refine f_be ?_
        refine f_tn (kh7 _ _ ?_)
        clear kh7
        refine f_seq fun K12 kh12 => ?_
        refine f_region ?_
        refine f_stepP rfl rfl rfl (o_move rfl) ?_
        refine f_stepP rfl rfl rfl (o_assign rfl) ?_
        refine f_stepP rfl rfl rfl (o_assign rfl) ?_
        refine f_done ?_
        refine f_tn (kh12 _ _ ?_)
        clear kh12
        refine f_ret ?_
        obtain rfl : j = (R.bagI l).length := by omega
        rw [← hsl, List.take_length] at ho1
        exact f_fin2 [(rSegs R bn (.slice Au R.up.length cu) (.slice Al R.lts.length cl) (.slice At_ R.tim.length ct) mu ml mt).flatten, mo] Try.results44 rfl rfl (Sub.flat2 (by repeat (first | exact Sub.nil | refine Sub.pick ?_))) ⟨_, _, _, by rw [hl0], rfl, RNet.mk hA, by rw [if_pos hl0]; exact ho1⟩

end Go.Proofs.Ytbkneamjpiiepaa
