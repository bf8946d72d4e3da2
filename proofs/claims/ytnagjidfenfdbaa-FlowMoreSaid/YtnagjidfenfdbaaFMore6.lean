/- flyoverlaw06: FlowMore. -/
import Derived.Test.YtnagjidfenfdbaaFLaw6b
namespace Go.Proofs.Ytnagjidfenfdbaa
open Go Go.RowKit Fly
set_option linter.unusedVariables false
set_option linter.unusedSimpArgs false


theorem raise_eq {l : List Arc} {i : Nat} {d : Int} (hi : i < l.length) : raise l i d = l.set i ⟨l[i].src, l[i].dst, l[i].wt + d⟩ := by unfold raise; rw [arcAt_eq hi]
theorem raise_get {l : List Arc} {i j : Nat} {d : Int} (hi : i < l.length) (h : j < (raise l i d).length) : ∃ h' : j < l.length, (raise l i d)[j].src = l[j].src ∧ (raise l i d)[j].dst = l[j].dst ∧ (raise l i d)[j].wt = if i = j then l[i].wt + d else l[j].wt := by
  have h' : j < l.length := by rwa [raise_len] at h
  refine ⟨h', ?_⟩
  have e := raise_at (d := d) hi j
  rw [arcAt_eq h] at e
  rw [e]
  split
  · rename_i e'; subst e'; rw [arcAt_eq hi]; exact ⟨rfl, rfl, rfl⟩
  · rw [arcAt_eq h']; exact ⟨rfl, rfl, rfl⟩
theorem raise_ok {l : List Arc} {i : Nat} {d : Int} (hi : i < l.length) (h : ∀ x ∈ l, ArcOk x) (h0 : 0 ≤ d) (h1 : l[i].wt + d ≤ 4294967295) : ∀ x ∈ raise l i d, ArcOk x := fun x hx => by
  obtain ⟨j, hj, rfl⟩ := List.mem_iff_getElem.1 hx
  obtain ⟨h', a, b, c⟩ := raise_get hi hj
  have hj' := h _ (List.getElem_mem h')
  have hi' := (h _ (List.getElem_mem hi)).wt
  refine ⟨by rw [a]; exact hj'.src, by rw [b]; exact hj'.dst, ?_⟩
  rw [c]; split
  · omega
  · exact hj'.wt
theorem raise_looked {n : Nat} {l : List Arc} {i : Nat} {d s t : Int} (hn : NOk n l) (hi : i < l.length) (h : flooked (n : Int) l s t = 0) : flooked (n : Int) (raise l i d) s t = 0 := by
  obtain ⟨_, a, b, c, e, g⟩ := flooked_zero h
  have hk : ncheck (n : Int) (raise l i d) = (0, 0) := ncheck_ok (by have := hn.n1; omega) (by rw [raise_len]; exact hn.len) fun j hj => by
    obtain ⟨h', x, y, _⟩ := raise_get hi hj
    have := hn.good j h'
    unfold arcBad
    rw [x, y]
    simp; omega
  unfold flooked
  rw [hk, if_neg (by decide), if_neg (by omega), if_neg g]
theorem pick_edge (ed : Int) (h : I64 ed) {m : Nat} (hm : 0 < m) : ∃ i : Nat, i < m ∧ (IntKind.u64.wrap ed).tmod (m : Int) = (i : Int) := by
  have h0 : 0 ≤ IntKind.u64.wrap ed := by rw [wrap_u64_of h]; unfold I64 at h; split <;> omega
  have h1 : 0 ≤ (IntKind.u64.wrap ed) % (m : Int) := Int.emod_nonneg _ (by omega)
  have h2 : (IntKind.u64.wrap ed) % (m : Int) < (m : Int) := Int.emod_lt_of_pos _ (by omega)
  refine ⟨((IntKind.u64.wrap ed) % (m : Int)).toNat, by omega, ?_⟩
  rw [Int.tmod_eq_emod_of_nonneg h0]; omega

set_option maxRecDepth 100000 in
set_option maxHeartbeats 4000000 in
theorem FlowMore_spec (N : Int) (A : Option Addr) (l : List Arc) (cap : Nat) (s t ed mo : Int) (w : World) (hr : Ro (Fr w []) w A (l.flatMap arcCs)) (hl : l.length ≤ 9223372036854775807) (hN : I64 N) (hok : ∀ x ∈ l, ArcOk x) (hed : I64 ed) (hmo : 0 ≤ mo ∧ mo ≤ 4294967295) (hz0 : l.length * 24 ≤ 140737488351232) :
    Meets Try.prog 7 [.agg #[.int .i64 N, .slice A l.length cap], .agg #[.int .i64 s, .int .i64 t, .int .i64 ed, .int .u32 mo]] w [] (fun u m => u = .bool true ∧ m = []) := by
  refine f_enter Try.func7 rfl Try.ntmps7 rfl Owns.nil ?_
  refine f_seq fun K1 kh1 => ?_
  refine f_region ?_
  refine f_step rfl rfl rfl (o_box rfl rfl fun b2 => ?_)
  refine f_step rfl rfl rfl (o_box rfl rfl fun b3 => ?_)
  refine f_stepP rfl rfl rfl (o_assign rfl) ?_
  refine f_done ?_
  refine f_tn (kh1 _ _ ?_)
  clear kh1
  refine f_seq fun K2 kh2 => ?_
  refine f_seq fun K3 kh3 => ?_
  refine f_region ?_
  refine f_step rfl rfl rfl (o_call Try.call10 rfl (fun w_ hp_ => works6_spec w_) ?_)
  rintro _ _ ⟨rfl, rfl⟩
  dsimp only [List.cons_append, List.nil_append]
  refine f_stepP rfl rfl rfl (o_not rfl) ?_
  refine f_done ?_
  refine f_tn (kh3 _ _ ?_)
  clear kh3
  refine f_condF rfl ?_
  refine f_skip ?_
  refine f_tn (kh2 _ _ ?_)
  clear kh2
  refine f_seq fun K4 kh4 => ?_
  refine f_region ?_
  refine f_stepP rfl rfl rfl (o_loadA (vs := [_, _]) Try.isAgg24 Try.sizeOf24 rfl rfl ⟨(rdA rfl), (rdA rfl), trivial⟩) ?_
  refine f_stepP rfl rfl rfl (o_field fa54_0 rfl) ?_
  refine f_stepP rfl rfl rfl (o_load Try.isAgg3 rfl (rdA rfl)) ?_
  refine f_stepP rfl rfl rfl (o_field fa54_1 rfl) ?_
  refine f_stepP rfl rfl rfl (o_load Try.isAgg3 rfl (rdA rfl)) ?_
  refine f_step rfl rfl rfl (o_call Try.call21 rfl (fun w_ hp_ => Max_spec N A l cap s t w_ (hr.up0 hp_) hl hN hok) ?_)
  rintro _ _ ⟨V, v6, m6, f, rfl, rfl, hoF, hx1, hx0⟩
  dsimp only [List.cons_append, List.nil_append]
  refine f_stepP rfl rfl rfl (o_move rfl) ?_
  refine f_stepP rfl rfl rfl (o_extract rfl rfl) ?_
  refine f_stepP rfl rfl rfl (o_extract rfl rfl) ?_
  refine f_stepP rfl rfl rfl (o_extract rfl rfl) ?_
  refine f_stepP rfl rfl rfl (o_assign rfl) ?_
  refine f_stepP rfl rfl rfl (o_assign rfl) ?_
  refine f_stepP rfl rfl rfl (o_assign rfl) ?_
  refine f_done ?_
  refine f_tn (kh4 _ _ ?_)
  clear kh4
  refine f_seq fun K5 kh5 => ?_
  refine f_seq fun K6 kh6 => ?_
  refine f_region ?_
  refine f_stepP rfl rfl rfl (o_loadA (vs := [_, _]) Try.isAgg24 Try.sizeOf24 rfl rfl ⟨(rdA rfl), (rdA rfl), trivial⟩) ?_
  refine f_step rfl rfl rfl (o_call Try.call9 rfl (fun w_ hp_ => large6_spec N A l.length cap w_) ?_)
  rintro _ _ ⟨rfl, rfl⟩
  dsimp only [List.cons_append, List.nil_append]
  refine f_stepP rfl rfl rfl (o_move rfl) ?_
  refine f_splitL 28 rfl (fun g28 => ?_) (fun g28 => ?_)
  · skip
    refine f_stepN rfl rfl rfl rfl rfl rfl ?_
    refine f_stepN rfl rfl rfl rfl rfl rfl ?_
    refine f_stepP rfl rfl rfl (o_pickT rfl rfl) ?_
    refine f_stepP rfl rfl rfl (o_move rfl) ?_
    refine f_stepN rfl rfl rfl rfl rfl rfl ?_
    refine f_stepN rfl rfl rfl rfl rfl rfl ?_
    refine f_stepN rfl rfl rfl rfl rfl rfl ?_
    refine f_stepN rfl rfl rfl rfl rfl rfl ?_
    refine f_stepP rfl rfl rfl (o_pickT rfl rfl) ?_
    refine f_done ?_
    refine f_tn (kh6 _ _ ?_)
    clear kh6
    refine f_condT rfl ?_
    refine f_seq fun K7 kh7 => ?_
    refine f_region ?_
    refine f_stepP rfl rfl rfl (o_assign rfl) ?_
    refine f_done ?_
    refine f_tn (kh7 _ _ ?_)
    clear kh7
    refine f_ret ?_
    refine f_tr ?_
    exact f_fin1 [] Try.results7 rfl Sub.nil ⟨rfl, rfl⟩
  · skip
    refine f_stepPY rfl rfl rfl rfl rfl (o_move rfl) ?_
    refine f_stepPY rfl rfl rfl rfl rfl (o_neq rfl rfl) ?_
    refine f_stepP rfl rfl rfl (o_pickF rfl rfl) ?_
    refine f_stepP rfl rfl rfl (o_move rfl) ?_
    refine f_splitL 32 rfl (fun g32 => ?_) (fun g32 => ?_)
    · skip
      refine f_stepN rfl rfl rfl rfl rfl rfl ?_
      refine f_stepN rfl rfl rfl rfl rfl rfl ?_
      refine f_stepN rfl rfl rfl rfl rfl rfl ?_
      refine f_stepN rfl rfl rfl rfl rfl rfl ?_
      refine f_stepP rfl rfl rfl (o_pickT rfl rfl) ?_
      refine f_done ?_
      refine f_tn (kh6 _ _ ?_)
      clear kh6
      refine f_condT rfl ?_
      refine f_seq fun K8 kh8 => ?_
      refine f_region ?_
      refine f_stepP rfl rfl rfl (o_assign rfl) ?_
      refine f_done ?_
      refine f_tn (kh8 _ _ ?_)
      clear kh8
      refine f_ret ?_
      refine f_tr ?_
      exact f_fin1 [] Try.results7 rfl Sub.nil ⟨rfl, rfl⟩
    · skip
      refine f_stepPY rfl rfl rfl rfl rfl (o_field fa24_1 rfl) ?_
      refine f_stepPY rfl rfl rfl rfl rfl (o_load Try.isAgg22 rfl (rdA rfl)) ?_
      refine f_stepPY rfl rfl rfl rfl rfl (o_len sl22 rfl) ?_
      refine f_stepPY rfl rfl rfl rfl rfl (o_eql rfl rfl) ?_
      refine f_stepP rfl rfl rfl (o_pickF rfl rfl) ?_
      refine f_done ?_
      refine f_tn (kh6 _ _ ?_)
      clear kh6
      refine f_cond rfl (fun c37 => ?_) (fun c37 => ?_)
      · skip
        refine f_seq fun K9 kh9 => ?_
        refine f_region ?_
        refine f_stepP rfl rfl rfl (o_assign rfl) ?_
        refine f_done ?_
        refine f_tn (kh9 _ _ ?_)
        clear kh9
        refine f_ret ?_
        refine f_tr ?_
        exact f_fin1 [] Try.results7 rfl Sub.nil ⟨rfl, rfl⟩
      · skip
        have hz : flooked N l s t = 0 := by simpa using g32
        obtain ⟨hg0, hs0, hs1, ht0, ht1, hst0⟩ := flooked_zero hz
        have hN1 := ncheck_zero hg0
        obtain ⟨n, rfl⟩ : ∃ n : Nat, N = n := ⟨N.toNat, by omega⟩
        obtain ⟨a, rfl⟩ : ∃ k : Nat, s = k := ⟨s.toNat, by omega⟩
        obtain ⟨b, rfl⟩ : ∃ k : Nat, t = k := ⟨t.toNat, by omega⟩
        have hn := nok_of hg0 hok
        have hn1 := hn.n1
        have hel := hn.len
        have han : a < n := by omega
        have hbn : b < n := by omega
        have hwts : ∀ x ∈ l, 0 ≤ x.wt ∧ x.wt ≤ 4294967295 := fun x hx => (hok x hx).wt
        obtain ⟨hF, ⟨B1, hB1⟩, hV0, hV1⟩ := hx0 hz
        rw [Int.toNat_natCast, Int.toNat_natCast, Int.toNat_natCast] at hF hB1
        obtain ⟨i, hi, hir⟩ := pick_edge ed hed (m := l.length) (by omega)
        have hwi := hwts _ (List.getElem_mem hi)
        refine f_skip ?_
        refine f_tn (kh5 _ _ ?_)
        clear kh5
        refine f_seq fun K10 kh10 => ?_
        refine f_region ?_
        refine f_stepP rfl rfl rfl (o_field fa54_2 rfl) ?_
        refine f_stepP rfl rfl rfl (o_load Try.isAgg3 rfl (rdA rfl)) ?_
        refine f_stepP rfl rfl rfl (o_conv Try.runUnderlying3 Try.runUnderlying33 rfl _ rfl) ?_
        refine f_stepP rfl rfl rfl (o_field fa24_1 rfl) ?_
        refine f_stepP rfl rfl rfl (o_load Try.isAgg22 rfl (rdA rfl)) ?_
        refine f_stepP rfl rfl rfl (o_len sl22 rfl) ?_
        refine f_stepP rfl rfl rfl (o_conv Try.runUnderlying3 Try.runUnderlying33 rfl _ (wrap_u64 (by omega))) ?_
        refine f_stepP rfl rfl rfl (o_rem rfl rfl (by omega) (i : Int) hir) ?_
        refine f_stepP rfl rfl rfl (o_conv Try.runUnderlying33 Try.runUnderlying3 rfl _ (wrap_i64 (by omega))) ?_
        refine f_stepP rfl rfl rfl (o_assign rfl) ?_
        refine f_done ?_
        refine f_tn (kh10 _ _ ?_)
        clear kh10
        refine f_seq fun K11 kh11 => ?_
        refine f_region ?_
        refine f_stepP rfl rfl rfl (o_loadA (vs := [_, _]) Try.isAgg24 Try.sizeOf24 rfl rfl ⟨(rdA rfl), (rdA rfl), trivial⟩) ?_
        refine f_step rfl rfl rfl (o_call Try.call11 rfl (fun w_ hp_ => lent_spec (n : Int) A l cap w_ (hr.up0 hp_) hz0) ?_)
        rintro _ _ ⟨Am, cm, mm, rfl, rfl, hoM⟩
        dsimp only [List.cons_append, List.nil_append]
        refine f_step rfl rfl rfl (o_alloc Try.zeroValue24 rfl fun b9 => ?_)
        refine f_step0 rfl rfl (o_storeA Try.sizeOf24 rfl rfl rfl rfl (by first | exact Nat.le_of_ble_eq_true rfl | (simp; done) | (simp; omega)) [.int .i64 (n : Int), .slice Am l.length cm] rfl ?_)
        refine f_done ?_
        refine f_tn (kh11 _ _ ?_)
        clear kh11
        refine f_seq fun K12 kh12 => ?_
        obtain ⟨bm, spm, rfl, rfl, hupd⟩ := hoM.upd (by omega)
        refine f_regionT 10 rfl (by decide +kernel) ?_
        refine f_stillP rfl rfl rfl (o_field fa54_3 rfl) ?_
        refine f_stillP rfl rfl rfl (o_load Try.isAgg50 rfl (rdA rfl)) ?_
        refine f_stillP rfl rfl rfl (o_field fa24_1 rfl) ?_
        refine f_stillP rfl rfl rfl (o_load Try.isAgg22 rfl (rdA rfl)) ?_
        refine f_stillP rfl rfl rfl (o_move rfl) ?_
        refine f_stillP rfl rfl rfl (o_idx sl22 rfl rfl (i * 3) ⟨by omega, by omega, by first | omega | (simp; done) | (simp; omega)⟩) ?_
        refine f_stillP rfl rfl rfl (o_field fa52_2 rfl) ?_
        refine f_stillP rfl rfl rfl (o_load Try.isAgg50 rfl (rdOwn arcCs_len (k := i) (j := 2) hi rfl)) ?_
        refine f_stillP rfl rfl rfl (o_sub rfl rfl _ (wrap_u32 (by omega))) ?_
        refine f_stillP rfl rfl rfl (o_min rfl rfl) ?_
        refine f_stillD (f_tail ?_)
        refine f_stepP rfl rfl rfl (o_assign rfl) ?_
        refine f_done ?_
        refine f_tn (kh12 _ _ ?_)
        clear kh12
        refine f_seq fun K13 kh13 => ?_
        refine f_region ?_
        refine f_stepP rfl rfl rfl (o_field fa24_1 rfl) ?_
        refine f_stepP rfl rfl rfl (o_load Try.isAgg22 rfl (rdA rfl)) ?_
        refine f_stepP rfl rfl rfl (o_move rfl) ?_
        refine f_stepP rfl rfl rfl (o_idx sl22 rfl rfl (i * 3) ⟨by omega, by omega, by first | omega | (simp; done) | (simp; omega)⟩) ?_
        refine f_stepP rfl rfl rfl (o_field fa52_2 rfl) ?_
        refine f_stepP rfl rfl rfl (o_load Try.isAgg50 rfl (rdOwn arcCs_len (k := i) (j := 2) hi rfl)) ?_
        refine f_stepP rfl rfl rfl (o_move rfl) ?_
        refine f_stepP rfl rfl rfl (o_add rfl rfl _ (wrap_u32 (by omega))) ?_
        refine f_stepP rfl rfl rfl (o_idx sl22 rfl rfl (i * 3) ⟨by omega, by omega, by first | omega | (simp; done) | (simp; omega)⟩) ?_
        refine f_stepP rfl rfl rfl (o_field fa52_2 rfl) ?_
        refine f_step0 rfl rfl (o_store Try.sizeOf50 rfl rfl rfl rfl (by rw [List.length_append, flat_length arcCs arcCs_len]; omega) ((raise l i (min mo (4294967295 - l[i].wt))).flatMap arcCs ++ spm) (by rw [raise_eq hi]; exact set_flat arcCs_len spm (by omega) l i _ hi rfl) ?_)
        refine f_done ?_
        refine f_tn (kh13 _ _ ?_)
        clear kh13
        refine f_seq fun K14 kh14 => ?_
        refine f_region ?_
        refine f_stepP rfl rfl rfl (o_loadA (vs := [_, _]) Try.isAgg24 Try.sizeOf24 rfl rfl ⟨(rdA rfl), (rdA rfl), trivial⟩) ?_
        refine f_stepP rfl rfl rfl (o_field fa54_0 rfl) ?_
        refine f_stepP rfl rfl rfl (o_load Try.isAgg3 rfl (rdA rfl)) ?_
        refine f_stepP rfl rfl rfl (o_field fa54_1 rfl) ?_
        refine f_stepP rfl rfl rfl (o_load Try.isAgg3 rfl (rdA rfl)) ?_
        refine f_step rfl rfl rfl (o_call Try.call21 rfl (fun w_ hp_ => (by have h := Max_spec (n : Int) (some ⟨bm, 0, none⟩) (raise l i (min mo (4294967295 - l[i].wt))) cm (a : Int) (b : Int) w_ (roOwn (b := bm) hp_ (fun j v hj => app_get hj)) (by rw [raise_len]; exact hl) hN (raise_ok hi hok (by omega) (by omega)); rw [raise_len] at h; exact h)) ?_)
        rintro _ _ ⟨V2, v12, m12, f2, rfl, rfl, hoF2, hy1, hy0⟩
        have hz2 := raise_looked (d := (min mo (4294967295 - l[i].wt))) hn hi hz
        rw [hz2]
        obtain ⟨hF2, ⟨B2, hB2⟩, hW0, hW1⟩ := hy0 hz2
        rw [Int.toNat_natCast, Int.toNat_natCast, Int.toNat_natCast] at hF2 hB2
        have hvm := raise_more hn.net han hi (by omega) hF hB1 hF2 hB2
        dsimp only [List.cons_append, List.nil_append]
        refine f_stepP rfl rfl rfl (o_move rfl) ?_
        refine f_stepP rfl rfl rfl (o_extract rfl rfl) ?_
        refine f_stepP rfl rfl rfl (o_extract rfl rfl) ?_
        refine f_stepP rfl rfl rfl (o_extract rfl rfl) ?_
        refine f_stepP rfl rfl rfl (o_assign rfl) ?_
        refine f_stepP rfl rfl rfl (o_assign rfl) ?_
        refine f_stepP rfl rfl rfl (o_assign rfl) ?_
        refine f_done ?_
        refine f_tn (kh14 _ _ ?_)
        clear kh14
        refine f_seq fun K15 kh15 => ?_
        refine f_region ?_
        refine f_stepP rfl rfl rfl (o_move rfl) ?_
        refine f_stepP rfl rfl rfl (o_eql rfl rfl) ?_
        refine f_stepP rfl rfl rfl (o_move rfl) ?_
        refine f_trueL 81 rfl (by simp) ?_
        refine f_stepPY rfl rfl rfl rfl rfl (o_move rfl) ?_
        refine f_stepPY rfl rfl rfl rfl rfl (o_move rfl) ?_
        refine f_stepPY rfl rfl rfl rfl rfl (o_geq rfl rfl) ?_
        refine f_stepP rfl rfl rfl (o_pickT rfl rfl) ?_
        refine f_stepP rfl rfl rfl (o_move rfl) ?_
        refine f_trueL 86 rfl (by omega) ?_
        refine f_stepPY rfl rfl rfl rfl rfl (o_move rfl) ?_
        refine f_stepPY rfl rfl rfl rfl rfl (o_move rfl) ?_
        refine f_stepPY rfl rfl rfl rfl rfl (o_sub rfl rfl _ (wrap_u64 (by omega))) ?_
        refine f_stepPY rfl rfl rfl rfl rfl (o_move rfl) ?_
        refine f_stepPY rfl rfl rfl rfl rfl (o_conv Try.runUnderlying50 Try.runUnderlying33 rfl _ (wrap_u64 (by omega))) ?_
        refine f_stepPY rfl rfl rfl rfl rfl (o_leq rfl rfl) ?_
        refine f_stepP rfl rfl rfl (o_pickT rfl rfl) ?_
        refine f_stepP rfl rfl rfl (o_assign rfl) ?_
        refine f_done ?_
        refine f_tn (kh15 _ _ ?_)
        clear kh15
        refine f_ret ?_
        exact f_fin1 [] Try.results7 rfl Sub.nil ⟨by rw [decide_eq_true (by omega)], rfl⟩

end Go.Proofs.Ytnagjidfenfdbaa
