/- flyoverbook: what is lent, whether it is kept, what is spoiled. -/
import Derived.Test.YtlllpmafhnfihaaFBook
import Derived.Test.YtlllpmafhnfihaaFlyT
namespace Go.Proofs.Ytlllpmafhnfihaa
open Go Go.RowKit Fly
set_option linter.unusedVariables false
set_option linter.unusedSimpArgs false


theorem rds_ro' {S : Nat → Prop} {w0 : World} {segs : List Seg} {A : Option Addr} {cs : List Value} (h : Ro S w0 A cs) : cs ≠ [] → ∃ b off, A = some ⟨b, off, none⟩ ∧ Rds S w0 segs b off cs := fun hne => by
  obtain ⟨b, off, e, hS, hc⟩ := h hne
  exact ⟨b, off, e, Seen.rds fun _ => ⟨hS, hc⟩⟩
theorem arcs_one' (l : List Arc) : (l.flatMap arcCs).all (·.oneCell') = true := by
  induction l with
  | nil => rfl
  | cons x l ih => rw [List.flatMap_cons, List.all_append, ih]; rfl
theorem ints_one' (l : List Int) : (ints l).all (·.oneCell') = true := by
  induction l with
  | nil => rfl
  | cons x l ih => rw [show ints (x :: l) = .int .i64 x :: ints l from rfl, List.all_cons, ih]; rfl
abbrev mark : Arc := ⟨-77, 0, 0⟩
def LendΦ (N : Int) (l : List Arc) (u : Value) (own : List Seg) : Prop :=
  ∃ b c rest, u = .agg #[.int .i64 N, .slice (some ⟨b, 0, none⟩) l.length c] ∧ own = [[(b, blk (l.flatMap arcCs ++ (arcCs mark ++ rest)) 44)]] ∧ l.length + 1 ≤ c ∧ c ≤ 9223372036854775807
def LendIΦ (l : List Int) (u : Value) (own : List Seg) : Prop :=
  ∃ b c rest, u = .slice (some ⟨b, 0, none⟩) l.length c ∧ own = [[(b, blk (ints l ++ ([.int .i64 (-77)] ++ rest)) 3)]] ∧ l.length + 1 ≤ c ∧ c ≤ 9223372036854775807
theorem ro_head {S : Nat → Prop} {w0 : World} {A : Option Addr} {xs ys : List Value} (h : Ro S w0 A (xs ++ ys)) : Ro S w0 A xs := fun hne => by
  obtain ⟨b, off, e, hS, hc⟩ := h (by simp [hne])
  exact ⟨b, off, e, hS, fun j v hj => hc j v (app_get hj)⟩
theorem own_full {E len cap : Nat} {A : Option Addr} {cs : List Value} {m : Seg} (h : Own E 1 (.slice A len cap) len cs m) : (if cap = 0 then A else A.map (·.add (0 * 1))) = A ∧ ∃ cs', Own E 1 (.slice A cap cap) cap cs' m := by
  obtain ⟨hl, h | ⟨b, c, sp, e, hm, h1, h2, h3⟩⟩ := h
  · obtain ⟨e, rfl, rfl⟩ := h
    cases e
    exact ⟨rfl, [], by simp, .inl ⟨rfl, rfl, rfl⟩⟩
  · cases e
    exact ⟨by split <;> simp [add_at], cs ++ sp, by simp [hl, h3]; omega, .inr ⟨b, cap, [], rfl, by simpa using hm, Nat.le_refl _, h2, by simp⟩⟩

set_option maxRecDepth 100000 in
set_option maxHeartbeats 4000000 in
theorem LendGraph_spec (N : Int) (A : Option Addr) (l : List Arc) (cap : Nat) (w : World) (hr : Ro (Fr w []) w A (l.flatMap arcCs)) (hb : l.length * 24 ≤ 140737488351232) :
    Meets Try.prog 9 [.agg #[.int .i64 N, .slice A l.length cap]] w [] (LendΦ N l) := by
  refine f_enter Try.func9 rfl Try.ntmps9 rfl Owns.nil ?_
  refine f_seq fun K1 kh1 => ?_
  refine f_region ?_
  refine f_step rfl rfl rfl (o_box rfl rfl fun b1 => ?_)
  refine f_step rfl rfl rfl (o_alloc Try.zeroValue24 rfl fun b2 => ?_)
  refine f_done ?_
  refine f_tn (kh1 _ _ ?_)
  clear kh1
  refine f_seq fun K2 kh2 => ?_
  refine f_region ?_
  refine f_step rfl rfl rfl (o_slice0 el22 fun b4 => ?_)
  refine f_stepP rfl rfl rfl (o_field fa24_1 rfl) ?_
  refine f_stepP rfl rfl rfl (o_load Try.isAgg22 rfl (rdA rfl)) ?_
  refine f_step rfl rfl rfl (o_appendQ el22 rfl rfl (Own.mk (b := b4) (cs := []) (len := 0) rfl (by omega)) (ys := l.flatMap arcCs) (rds_ro' hr) (flat_length arcCs arcCs_len l) (arcs_one' l) (by omega) (by omega) fun v7 m7 o7 => ?_)
  refine f_stepP rfl rfl rfl (o_assign rfl) ?_
  refine f_done ?_
  refine f_tn (kh2 _ _ ?_)
  clear kh2
  refine f_seq fun K3 kh3 => ?_
  refine f_region ?_
  refine f_stepP rfl rfl rfl (o_move rfl) ?_
  refine f_stepP rfl rfl rfl (o_build (cs := arcCs mark) st44 rfl rfl) ?_
  refine f_step rfl rfl rfl (o_slice1 el22 (by omega) rfl rfl rfl fun b10 => ?_)
  refine f_step rfl rfl rfl (o_append el22 rfl rfl o7 (ys := arcCs mark) ⟨(rdA rfl), (rdA rfl), (rdA rfl), trivial⟩ rfl rfl (by omega) (by omega) fun v11 m11 o11 => ?_)
  obtain ⟨A11, c11, rfl, hc11, hc12⟩ := o11.val
  obtain ⟨b, sp, rfl, rfl⟩ := o11.at_ (by omega)
  rw [Nat.zero_add] at hc11
  refine f_stepP rfl rfl rfl (o_assign rfl) ?_
  refine f_done ?_
  refine f_tn (kh3 _ _ ?_)
  clear kh3
  refine f_seq fun K4 kh4 => ?_
  refine f_regionT 8 rfl (by decide +kernel) ?_
  refine f_stillP rfl rfl rfl (o_field fa24_0 rfl) ?_
  refine f_stillP rfl rfl rfl (o_load Try.isAgg3 rfl (rdA rfl)) ?_
  refine f_stillP rfl rfl rfl (o_move rfl) ?_
  refine f_stillP rfl rfl rfl (o_field fa24_1 rfl) ?_
  refine f_stillP rfl rfl rfl (o_load Try.isAgg22 rfl (rdA rfl)) ?_
  refine f_stillP rfl rfl rfl (o_len sl22 rfl) ?_
  refine f_stillP rfl rfl rfl (o_slice sl22 rfl rfl rfl rfl (fun h => by cases h) 0 l.length _ (.inl ⟨rfl, rfl⟩) (.inr ⟨_, _, rfl, by omega⟩) (.inl ⟨rfl, rfl⟩) ⟨by omega, by omega, by omega⟩ (.slice (some ⟨b, 0, none⟩) l.length c11) (by rw [if_neg (by omega)]; simp [add_at])) ?_
  refine f_stillP rfl rfl rfl (o_build (cs := [.int .i64 N, .slice (some ⟨b, 0, none⟩) l.length c11]) st24 rfl rfl) ?_
  refine f_stillD (f_tail ?_)
  refine f_step0 rfl rfl (o_storeA Try.sizeOf24 rfl rfl rfl rfl (by first | exact Nat.le_of_ble_eq_true rfl | (simp; done) | (simp; omega)) [.int .i64 N, .slice (some ⟨b, 0, none⟩) l.length c11] rfl ?_)
  refine f_done ?_
  refine f_tn (kh4 _ _ ?_)
  clear kh4
  refine f_ret ?_
  exact f_finR1 [[(b, blk (l.flatMap arcCs ++ (arcCs mark ++ sp)) 44)]] Try.results9 (rvA (vs := [.int .i64 N, .slice (some ⟨b, 0, none⟩) l.length c11]) Try.isAgg24 Try.sizeOf24 rfl rfl ⟨(rdA rfl), (rdA rfl), trivial⟩) (by rw [List.nil_append, List.append_assoc]; repeat (first | exact Sub.nil | refine Sub.pick ?_)) ⟨b, c11, sp, rfl, rfl, hc11, hc12⟩

set_option maxRecDepth 100000 in
set_option maxHeartbeats 4000000 in
theorem KeptGraph_spec (N : Int) (b c : Nat) (A : Option Addr) (l : List Arc) (cap : Nat) (rest : List Value) (w : World) (hx : Ro (Fr w []) w (some ⟨b, 0, none⟩) (l.flatMap arcCs ++ (arcCs mark ++ rest))) (hr : Ro (Fr w []) w A (l.flatMap arcCs)) (hc : l.length + 1 ≤ c) (hm : c ≤ 9223372036854775807) :
    Meets Try.prog 16 [.agg #[.int .i64 N, .slice (some ⟨b, 0, none⟩) l.length c], .agg #[.int .i64 N, .slice A l.length cap]] w [] (fun u m => u = .bool true ∧ m = []) := by
  obtain ⟨b', o', e', hSx, hcx⟩ := hx (by simp [arcCs])
  obtain ⟨rfl, rfl⟩ : b = b' ∧ 0 = o' := by cases e'; exact ⟨rfl, rfl⟩
  refine f_enter Try.func16 rfl Try.ntmps16 rfl Owns.nil ?_
  refine f_seq fun K1 kh1 => ?_
  refine f_region ?_
  refine f_step rfl rfl rfl (o_box rfl rfl fun b2 => ?_)
  refine f_step rfl rfl rfl (o_box rfl rfl fun b3 => ?_)
  refine f_stepP rfl rfl rfl (o_assign rfl) ?_
  refine f_done ?_
  refine f_tn (kh1 _ _ ?_)
  clear kh1
  refine f_seq fun K2 kh2 => ?_
  refine f_regionH [[(b2, blk [.int .i64 N, .slice (some ⟨b, 0, none⟩) l.length c] 24)], [(b3, blk [.int .i64 N, .slice A l.length cap] 24)]] rfl ?_
  refine f_take 0 rfl (by decide +kernel) rfl rfl rfl (by repeat (first | exact Sub.nil | refine Sub.pick ?_ | refine Sub.castO rfl ?_ | refine Sub.skip ?_)) (o_loadA (vs := [_, _]) Try.isAgg24 Try.sizeOf24 rfl rfl ⟨(rdA rfl), (rdA rfl), trivial⟩) ?_
  refine f_take 1 rfl (by decide +kernel) rfl rfl rfl (by repeat (first | exact Sub.nil | refine Sub.pick ?_ | refine Sub.castO rfl ?_ | refine Sub.skip ?_)) (o_loadA (vs := [_, _]) Try.isAgg24 Try.sizeOf24 rfl rfl ⟨(rdA rfl), (rdA rfl), trivial⟩) ?_
  refine f_only 2 rfl (by decide +kernel) rfl rfl rfl (o_call Try.call29 rfl (fun w_ hp_ => SameGraph_spec N N (some ⟨b, 0, none⟩) A l l c cap w_ ((ro_head hx).up0 hp_) (hr.up0 hp_) (by omega)) ?_)
  rintro _ _ ⟨rfl, rfl⟩
  rw [decide_eq_true (show N = N ∧ l = l from ⟨rfl, rfl⟩)]
  dsimp only [List.cons_append, List.nil_append]
  refine ⟨(by repeat (first | exact Sub.nil | refine Sub.pick ?_ | refine Sub.castO rfl ?_ | refine Sub.skip ?_)), ?_⟩
  refine f_take 3 rfl (by decide +kernel) rfl rfl rfl (by repeat (first | exact Sub.nil | refine Sub.pick ?_ | refine Sub.castO rfl ?_ | refine Sub.skip ?_)) (o_move rfl) ?_
  refine f_takeY 4 rfl (by decide +kernel) rfl rfl rfl rfl rfl (by repeat (first | exact Sub.nil | refine Sub.pick ?_ | refine Sub.castO rfl ?_ | refine Sub.skip ?_)) (o_field fa24_1 rfl) ?_
  refine f_takeY 5 rfl (by decide +kernel) rfl rfl rfl rfl rfl (by repeat (first | exact Sub.nil | refine Sub.pick ?_ | refine Sub.castO rfl ?_ | refine Sub.skip ?_)) (o_load Try.isAgg22 rfl (rdA rfl)) ?_
  refine f_takeY 6 rfl (by decide +kernel) rfl rfl rfl rfl rfl (by repeat (first | exact Sub.nil | refine Sub.pick ?_ | refine Sub.castO rfl ?_ | refine Sub.skip ?_)) (o_field fa24_1 rfl) ?_
  refine f_takeY 7 rfl (by decide +kernel) rfl rfl rfl rfl rfl (by repeat (first | exact Sub.nil | refine Sub.pick ?_ | refine Sub.castO rfl ?_ | refine Sub.skip ?_)) (o_load Try.isAgg22 rfl (rdA rfl)) ?_
  refine f_takeY 8 rfl (by decide +kernel) rfl rfl rfl rfl rfl (by repeat (first | exact Sub.nil | refine Sub.pick ?_ | refine Sub.castO rfl ?_ | refine Sub.skip ?_)) (o_len sl22 rfl) ?_
  refine f_takeY 9 rfl (by decide +kernel) rfl rfl rfl rfl rfl (by repeat (first | exact Sub.nil | refine Sub.pick ?_ | refine Sub.castO rfl ?_ | refine Sub.skip ?_)) (o_add rfl rfl _ (wrap_i64 (by omega))) ?_
  refine f_takeY 10 rfl (by decide +kernel) rfl rfl rfl rfl rfl (by repeat (first | exact Sub.nil | refine Sub.pick ?_ | refine Sub.castO rfl ?_ | refine Sub.skip ?_)) (o_slice sl22 rfl rfl rfl rfl (fun h => by cases h) 0 (l.length + 1) _ (.inl ⟨rfl, rfl⟩) (.inr ⟨_, _, rfl, by omega⟩) (.inl ⟨rfl, rfl⟩) ⟨by omega, by omega, by omega⟩ (.slice (some ⟨b, 0, none⟩) (l.length + 1) c) (by rw [if_neg (by omega)]; simp [add_at])) ?_
  refine f_takeY 11 rfl (by decide +kernel) rfl rfl rfl rfl rfl (by repeat (first | exact Sub.nil | refine Sub.pick ?_ | refine Sub.castO rfl ?_ | refine Sub.skip ?_)) (o_field fa24_1 rfl) ?_
  refine f_takeY 12 rfl (by decide +kernel) rfl rfl rfl rfl rfl (by repeat (first | exact Sub.nil | refine Sub.pick ?_ | refine Sub.castO rfl ?_ | refine Sub.skip ?_)) (o_load Try.isAgg22 rfl (rdA rfl)) ?_
  refine f_takeY 13 rfl (by decide +kernel) rfl rfl rfl rfl rfl (by repeat (first | exact Sub.nil | refine Sub.pick ?_ | refine Sub.castO rfl ?_ | refine Sub.skip ?_)) (o_len sl22 rfl) ?_
  refine f_takeY 14 rfl (by decide +kernel) rfl rfl rfl rfl rfl (by repeat (first | exact Sub.nil | refine Sub.pick ?_ | refine Sub.castO rfl ?_ | refine Sub.skip ?_)) (o_idx sl22 rfl rfl (l.length * 3) ⟨by omega, by omega, by first | omega | (simp; done) | (simp; omega)⟩) ?_
  refine f_takeY 15 rfl (by decide +kernel) rfl rfl rfl rfl rfl (by repeat (first | exact Sub.nil | refine Sub.pick ?_ | refine Sub.castO rfl ?_ | refine Sub.skip ?_)) (o_field fa44_0 rfl) ?_
  refine f_takeY 16 rfl (by decide +kernel) rfl rfl rfl rfl rfl (by repeat (first | exact Sub.nil | refine Sub.pick ?_ | refine Sub.castO rfl ?_ | refine Sub.skip ?_)) (o_load Try.isAgg3 rfl (rdS hSx (v := .int .i64 (-77)) (by have := hcx (l.length * 3) (.int .i64 (-77)) (by rw [List.getElem?_append_right (by rw [flat_length arcCs arcCs_len]; exact Nat.le_refl _), flat_length arcCs arcCs_len, Nat.sub_self]; rfl); simpa using this))) ?_
  refine f_takeY 17 rfl (by decide +kernel) rfl rfl rfl rfl rfl (by repeat (first | exact Sub.nil | refine Sub.pick ?_ | refine Sub.castO rfl ?_ | refine Sub.skip ?_)) (o_eql rfl rfl) ?_
  refine f_take 18 rfl (by decide +kernel) rfl rfl rfl (by repeat (first | exact Sub.nil | refine Sub.pick ?_ | refine Sub.castO rfl ?_ | refine Sub.skip ?_)) (o_pickT rfl rfl) ?_
  refine f_only 19 rfl (by decide +kernel) rfl rfl rfl ((o_assign rfl).does ⟨(by repeat (first | exact Sub.nil | refine Sub.pick ?_ | refine Sub.castO rfl ?_ | refine Sub.skip ?_)), ?_⟩)
  refine f_over (by decide +kernel) ?_
  refine f_tn (kh2 _ _ ?_)
  clear kh2
  refine f_ret ?_
  exact f_fin1 [] Try.results16 rfl Sub.nil ⟨rfl, rfl⟩

set_option maxRecDepth 100000 in
set_option maxHeartbeats 4000000 in
theorem SpoilInts_spec (A : Option Addr) (len cap : Nat) (cs : List Value) (m : Seg) (x : Int) (w : World) (ho : Own 3 1 (.slice A len cap) len cs m) (hw : Owns w [m]) :
    Meets Try.prog 15 [.slice A len cap, .int .i64 x] w [m] (fun u own' => u = .tuple #[] ∧ own' = []) := by
  obtain ⟨_, _, e_, hlc, hc⟩ := ho.val
  cases e_
  obtain ⟨hA, cs', ho'⟩ := own_full ho
  clear ho
  refine f_enter Try.func15 rfl Try.ntmps15 rfl hw ?_
  refine f_seq fun K1 kh1 => ?_
  refine f_region ?_
  refine f_stepP rfl rfl rfl (o_move rfl) ?_
  refine f_stepP rfl rfl rfl (o_move rfl) ?_
  refine f_stepP rfl rfl rfl (o_cap sl28 rfl) ?_
  refine f_stepP rfl rfl rfl (o_slice sl28 rfl rfl rfl rfl (fun h => by cases h) 0 cap _ (.inl ⟨rfl, rfl⟩) (.inr ⟨_, _, rfl, by omega⟩) (.inl ⟨rfl, rfl⟩) ⟨by omega, by omega, by omega⟩ (.slice A cap cap) (by simp only [Nat.sub_zero]; rw [hA])) ?_
  refine f_stepP rfl rfl rfl (o_assign rfl) ?_
  refine f_done ?_
  refine f_tn (kh1 _ _ ?_)
  clear kh1
  refine f_seq fun K2 kh2 => ?_
  refine f_region ?_
  refine f_stepP rfl rfl rfl (o_assign rfl) ?_
  refine f_done ?_
  refine f_tn (kh2 _ _ ?_)
  clear kh2
  refine f_block ?_
  refine f_loop (α := Nat × List Value × Seg) [0, 1] (fun ⟨k, ds, x_⟩ => [(4, .int .i64 (k : Int))]) (fun ⟨k, ds, x_⟩ => [x_]) (fun ⟨k, ds, x_⟩ => k ≤ cap ∧ Own 3 1 (.slice A cap cap) cap ds x_) (fun ⟨k, ds, x_⟩ => cap - k) (0, cs', m) ?_ ?_ ?_ ?_
  · exact (by repeat (first | exact trivial | refine ⟨rfl, ?_⟩))
  · repeat (first | exact Sub.nil | refine Sub.pick ?_ | refine Sub.castO rfl ?_ | refine Sub.skip ?_)
  · exact ⟨Nat.zero_le _, ho'⟩
  · rintro ⟨k, ds, x_⟩ ⟨hk, hx⟩
    refine f_seq fun K3 kh3 => ?_
    refine f_seq fun K4 kh4 => ?_
    refine f_region ?_
    refine f_stepP rfl rfl rfl (o_move rfl) ?_
    refine f_stepP rfl rfl rfl (o_move rfl) ?_
    refine f_stepP rfl rfl rfl (o_len sl28 rfl) ?_
    refine f_stepP rfl rfl rfl (o_lss rfl rfl) ?_
    refine f_done ?_
    refine f_tn (kh4 _ _ ?_)
    clear kh4
    refine f_cond rfl (fun c12 => ?_) (fun c12 => ?_)
    · skip
      refine f_skip ?_
      refine f_tn (kh3 _ _ ?_)
      clear kh3
      refine f_seq fun K5 kh5 => ?_
      refine f_block ?_
      have hk' : k < cap := by omega
      obtain ⟨b, rfl, rfl⟩ : ∃ b, A = some ⟨b, 0, none⟩ ∧ x_ = [(b, blk ds 3)] := by
        obtain ⟨_, h | ⟨b, c, sp, e, hm, h1, h2, h3⟩⟩ := hx
        · omega
        · cases e
          have : sp = [] := List.length_eq_zero_iff.1 (by simpa using h3)
          subst this
          exact ⟨b, rfl, by simpa using hm⟩
      have hdl : ds.length = cap := by simpa using hx.1
      refine f_region ?_
      refine f_stepP rfl rfl rfl (o_move rfl) ?_
      refine f_stepP rfl rfl rfl (o_move rfl) ?_
      refine f_stepP rfl rfl rfl (o_move rfl) ?_
      refine f_stepP rfl rfl rfl (o_idx sl28 rfl rfl (k) ⟨by omega, by omega, by first | omega | (simp; done) | (simp; omega)⟩) ?_
      refine f_step0 rfl rfl (o_store Try.sizeOf3 rfl rfl rfl rfl (by omega) _ rfl ?_)
      refine f_done ?_
      refine f_bn ?_
      refine f_tn (kh5 _ _ ?_)
      clear kh5
      refine f_region ?_
      refine f_stepP rfl rfl rfl (o_move rfl) ?_
      refine f_stepP rfl rfl rfl (o_add rfl rfl _ (wrap_i64 (by omega))) ?_
      refine f_stepP rfl rfl rfl (o_assign rfl) ?_
      refine f_done ?_
      refine f_tn (f_again (k + 1, ds.set k (.int .i64 x), [(b, blk (ds.set k (.int .i64 x)) 3)]) (by first | omega | (dsimp only; omega) | (simp; omega)) ⟨by omega, by simpa using hx.1, .inr ⟨b, cap, [], rfl, by simp, Nat.le_refl _, hc, by simp⟩⟩ ?_ ?_ ?_)
      · exact (by repeat (first | exact trivial | refine ⟨rfl, ?_⟩))
      · exact (by repeat (first | exact trivial | refine ⟨rfl, ?_⟩))
      · repeat (first | exact Sub.nil | refine Sub.pick ?_ | refine Sub.castO rfl ?_ | refine Sub.skip ?_)
    · skip
      refine f_exit ?_
      refine f_te ?_
      clear kh3
      refine f_te ?_
      refine f_be ?_
      exact f_fin0n [] Try.results15 Sub.empty ⟨rfl, rfl⟩

end Go.Proofs.Ytlllpmafhnfihaa
