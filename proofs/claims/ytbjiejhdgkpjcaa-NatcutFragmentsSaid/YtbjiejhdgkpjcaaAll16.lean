import Derived.Test.YtbjiejhdgkpjcaaAll7
import Derived.Test.YtbjiejhdgkpjcaaFlyT
import Derived.Test.YtbjiejhdgkpjcaaAll14
import Derived.Test.YtbjiejhdgkpjcaaAll15
import Derived.Test.YtbjiejhdgkpjcaaFlyR
import Derived.Test.YtbjiejhdgkpjcaaAll6

/- flyoverbook: what is lent, whether it is kept, what is spoiled. -/
namespace Go.Proofs.Ytbjiejhdgkpjcaa
open Go Go.RowKit Fly
set_option linter.unusedVariables false
set_option linter.unusedSimpArgs false


theorem rds_ro' {S : Nat → Prop} {w0 : World} {segs : List Seg} {A : Option Addr} {cs : List Value} (h : Ro S w0 A cs) : cs ≠ [] → ∃ b off, A = some ⟨b, off, none⟩ ∧ Rds S w0 segs b off cs := fun hne => by
  obtain ⟨b, off, e, hS, hc⟩ := h hne
  exact ⟨b, off, e, Seen.rds fun _ => ⟨hS, hc⟩⟩
theorem arcs_one' (l : List Arc) : (l.flatMap arcCs).all (·.oneCell') = true := by
  induction l with
  | nil => rfl
  | cons x l ih => rw [List.flatMap_cons, List.all_append, ih]; rfl
theorem ints_one' (l : List Int) : (ints l).all (·.oneCell') = true := by
  induction l with
  | nil => rfl
  | cons x l ih => rw [show ints (x :: l) = .int .i64 x :: ints l from rfl, List.all_cons, ih]; rfl
abbrev mark : Arc := ⟨-77, 0, 0⟩
def LendΦ (N : Int) (l : List Arc) (u : Value) (own : List Seg) : Prop :=
  ∃ b c rest, u = .agg #[.int .i64 N, .slice (some ⟨b, 0, none⟩) l.length c] ∧ own = [[(b, blk (l.flatMap arcCs ++ (arcCs mark ++ rest)) 55)]] ∧ l.length + 1 ≤ c ∧ c ≤ 9223372036854775807
def LendIΦ (l : List Int) (u : Value) (own : List Seg) : Prop :=
  ∃ b c rest, u = .slice (some ⟨b, 0, none⟩) l.length c ∧ own = [[(b, blk (ints l ++ ([.int .i64 (-77)] ++ rest)) 3)]] ∧ l.length + 1 ≤ c ∧ c ≤ 9223372036854775807
theorem ro_head {S : Nat → Prop} {w0 : World} {A : Option Addr} {xs ys : List Value} (h : Ro S w0 A (xs ++ ys)) : Ro S w0 A xs := fun hne => by
  obtain ⟨b, off, e, hS, hc⟩ := h (by simp [hne])
  exact ⟨b, off, e, hS, fun j v hj => hc j v (app_get hj)⟩
theorem own_full {E len cap : Nat} {A : Option Addr} {cs : List Value} {m : Seg} (h : Own E 1 (.slice A len cap) len cs m) : (if cap = 0 then A else A.map (·.add (0 * 1))) = A ∧ ∃ cs', Own E 1 (.slice A cap cap) cap cs' m := by
  obtain ⟨hl, h | ⟨b, c, sp, e, hm, h1, h2, h3⟩⟩ := h
  · obtain ⟨e, rfl, rfl⟩ := h
    cases e
    exact ⟨rfl, [], by simp, .inl ⟨rfl, rfl, rfl⟩⟩
  · cases e
    exact ⟨by split <;> simp [add_at], cs ++ sp, by simp [hl, h3]; omega, .inr ⟨b, cap, [], rfl, by simpa using hm, Nat.le_refl _, h2, by simp⟩⟩

set_option maxRecDepth 100000 in
set_option maxHeartbeats 4000000 in
theorem LendGraph_spec (N : Int) (A : Option Addr) (l : List Arc) (cap : Nat) (w : World) (hr : Ro (Fr w []) w A (l.flatMap arcCs)) (hb : l.length * 24 ≤ 140737488351232) :
    Meets Try.prog 10 [.agg #[.int .i64 N, .slice A l.length cap]] w [] (LendΦ N l) := by
 refine f_enter Try.func10 rfl Try.ntmps10 rfl Owns.nil ?_
 refine f_seq fun K1 kh1 => ?_
 refine f_region ?_
 refine f_step rfl rfl rfl (o_box rfl rfl fun b1 => ?_)
 refine f_step rfl rfl rfl (o_alloc Try.zeroValue24 rfl fun b2 => ?_)
 refine f_done ?_
 refine f_tn (kh1 _ _ ?_)
 clear kh1
 refine f_seq fun K2 kh2 => ?_
 refine f_region ?_
 refine f_step rfl rfl rfl (o_slice0 el22 fun b4 => ?_)
 refine f_stepP rfl rfl rfl (o_field fa24_1 rfl) ?_
 refine f_stepP rfl rfl rfl (o_load Try.isAgg22 rfl (rdA rfl)) ?_
 refine f_step rfl rfl rfl (o_appendQ el22 rfl rfl (Own.mk (b := b4) (cs := []) (len := 0) rfl (by omega)) (ys := l.flatMap arcCs) (rds_ro' hr) (flat_length arcCs arcCs_len l) (arcs_one' l) (by omega) (by omega) fun v7 m7 o7 => ?_)
 refine f_stepP rfl rfl rfl (o_assign rfl) ?_
 refine f_done ?_
 refine f_tn (kh2 _ _ ?_)
 clear kh2
 refine f_seq fun K3 kh3 => ?_
 refine f_region ?_
 refine f_stepP rfl rfl rfl (o_move rfl) ?_
 refine f_stepP rfl rfl rfl (o_build (cs := arcCs mark) st55 rfl rfl) ?_
 refine f_step rfl rfl rfl (o_slice1 el22 (by omega) rfl rfl rfl fun b10 => ?_)
 refine f_step rfl rfl rfl (o_append el22 rfl rfl o7 (ys := arcCs mark) ⟨(rdA rfl), (rdA rfl), (rdA rfl), trivial⟩ rfl rfl (by omega) (by omega) fun v11 m11 o11 => ?_)
 obtain ⟨A11, c11, rfl, hc11, hc12⟩ := o11.val
 obtain ⟨b, sp, rfl, rfl⟩ := o11.at_ (by omega)
 rw [Nat.zero_add] at hc11
 refine f_stepP rfl rfl rfl (o_assign rfl) ?_
 refine f_done ?_
 refine f_tn (kh3 _ _ ?_)
 clear kh3
 refine f_seq fun K4 kh4 => ?_
 refine f_regionT 8 rfl (by decide +kernel) ?_
 refine f_stillP rfl rfl rfl (o_field fa24_0 rfl) ?_
 refine f_stillP rfl rfl rfl (o_load Try.isAgg3 rfl (rdA rfl)) ?_
 refine f_stillP rfl rfl rfl (o_move rfl) ?_
 refine f_stillP rfl rfl rfl (o_field fa24_1 rfl) ?_
 refine f_stillP rfl rfl rfl (o_load Try.isAgg22 rfl (rdA rfl)) ?_
 refine f_stillP rfl rfl rfl (o_len sl22 rfl) ?_
 refine f_stillP rfl rfl rfl (o_slice sl22 rfl rfl rfl rfl (fun h => by cases h) 0 l.length _ (.inl ⟨rfl, rfl⟩) (.inr ⟨_, _, rfl, by omega⟩) (.inl ⟨rfl, rfl⟩) ⟨by omega, by omega, by omega⟩ (.slice (some ⟨b, 0, none⟩) l.length c11) (by rw [if_neg (by omega)]; simp [add_at])) ?_
 refine f_stillP rfl rfl rfl (o_build (cs := [.int .i64 N, .slice (some ⟨b, 0, none⟩) l.length c11]) st24 rfl rfl) ?_
 refine f_stillD (f_tail ?_)
 refine f_step0 rfl rfl (o_storeA Try.sizeOf24 rfl rfl rfl rfl (by first | exact Nat.le_of_ble_eq_true rfl | (simp; done) | (simp; omega)) [.int .i64 N, .slice (some ⟨b, 0, none⟩) l.length c11] rfl ?_)
 refine f_done ?_
 refine f_tn (kh4 _ _ ?_)
 clear kh4
 refine f_ret ?_
 exact f_finR1 [[(b, blk (l.flatMap arcCs ++ (arcCs mark ++ sp)) 55)]] Try.results10 (rvA (vs := [.int .i64 N, .slice (some ⟨b, 0, none⟩) l.length c11]) Try.isAgg24 Try.sizeOf24 rfl rfl ⟨(rdA rfl), (rdA rfl), trivial⟩) (by rw [List.nil_append, List.append_assoc]; repeat (first | exact Sub.nil | refine Sub.pick ?_)) ⟨b, c11, sp, rfl, rfl, hc11, hc12⟩

set_option maxRecDepth 100000 in
set_option maxHeartbeats 4000000 in
theorem KeptGraph_spec (N : Int) (b c : Nat) (A : Option Addr) (l : List Arc) (cap : Nat) (rest : List Value) (w : World) (hx : Ro (Fr w []) w (some ⟨b, 0, none⟩) (l.flatMap arcCs ++ (arcCs mark ++ rest))) (hr : Ro (Fr w []) w A (l.flatMap arcCs)) (hc : l.length + 1 ≤ c) (hm : c ≤ 9223372036854775807) :
    Meets Try.prog 14 [.agg #[.int .i64 N, .slice (some ⟨b, 0, none⟩) l.length c], .agg #[.int .i64 N, .slice A l.length cap]] w [] (fun u m => u = .bool true ∧ m = []) := by
 obtain ⟨b', o', e', hSx, hcx⟩ := hx (by simp [arcCs])
 obtain ⟨rfl, rfl⟩ : b = b' ∧ 0 = o' := by cases e'; exact ⟨rfl, rfl⟩
 refine f_enter Try.func14 rfl Try.ntmps14 rfl Owns.nil ?_
 refine f_seq fun K1 kh1 => ?_
 refine f_region ?_
 refine f_step rfl rfl rfl (o_box rfl rfl fun b2 => ?_)
 refine f_step rfl rfl rfl (o_box rfl rfl fun b3 => ?_)
 refine f_stepP rfl rfl rfl (o_assign rfl) ?_
 refine f_done ?_
 refine f_tn (kh1 _ _ ?_)
 clear kh1
 refine f_seq fun K2 kh2 => ?_
 refine f_regionH [[(b2, blk [.int .i64 N, .slice (some ⟨b, 0, none⟩) l.length c] 24)], [(b3, blk [.int .i64 N, .slice A l.length cap] 24)]] rfl ?_
 refine f_take 0 rfl (by decide +kernel) rfl rfl rfl (by repeat (first | exact Sub.nil | refine Sub.pick ?_ | refine Sub.castO rfl ?_ | refine Sub.skip ?_)) (o_loadA (vs := [_, _]) Try.isAgg24 Try.sizeOf24 rfl rfl ⟨(rdA rfl), (rdA rfl), trivial⟩) ?_
 refine f_take 1 rfl (by decide +kernel) rfl rfl rfl (by repeat (first | exact Sub.nil | refine Sub.pick ?_ | refine Sub.castO rfl ?_ | refine Sub.skip ?_)) (o_loadA (vs := [_, _]) Try.isAgg24 Try.sizeOf24 rfl rfl ⟨(rdA rfl), (rdA rfl), trivial⟩) ?_
 refine f_only 2 rfl (by decide +kernel) rfl rfl rfl (o_call Try.call36 rfl (fun w_ hp_ => SameGraph_spec N N (some ⟨b, 0, none⟩) A l l c cap w_ ((ro_head hx).up0 hp_) (hr.up0 hp_) (by omega)) ?_)
 rintro _ _ ⟨rfl, rfl⟩
 rw [decide_eq_true (show N = N ∧ l = l from ⟨rfl, rfl⟩)]
 dsimp only [List.cons_append, List.nil_append]
 refine ⟨(by repeat (first | exact Sub.nil | refine Sub.pick ?_ | refine Sub.castO rfl ?_ | refine Sub.skip ?_)), ?_⟩
 refine f_take 3 rfl (by decide +kernel) rfl rfl rfl (by repeat (first | exact Sub.nil | refine Sub.pick ?_ | refine Sub.castO rfl ?_ | refine Sub.skip ?_)) (o_move rfl) ?_
 refine f_takeY 4 rfl (by decide +kernel) rfl rfl rfl rfl rfl (by repeat (first | exact Sub.nil | refine Sub.pick ?_ | refine Sub.castO rfl ?_ | refine Sub.skip ?_)) (o_field fa24_1 rfl) ?_
 refine f_takeY 5 rfl (by decide +kernel) rfl rfl rfl rfl rfl (by repeat (first | exact Sub.nil | refine Sub.pick ?_ | refine Sub.castO rfl ?_ | refine Sub.skip ?_)) (o_load Try.isAgg22 rfl (rdA rfl)) ?_
 refine f_takeY 6 rfl (by decide +kernel) rfl rfl rfl rfl rfl (by repeat (first | exact Sub.nil | refine Sub.pick ?_ | refine Sub.castO rfl ?_ | refine Sub.skip ?_)) (o_field fa24_1 rfl) ?_
 refine f_takeY 7 rfl (by decide +kernel) rfl rfl rfl rfl rfl (by repeat (first | exact Sub.nil | refine Sub.pick ?_ | refine Sub.castO rfl ?_ | refine Sub.skip ?_)) (o_load Try.isAgg22 rfl (rdA rfl)) ?_
 refine f_takeY 8 rfl (by decide +kernel) rfl rfl rfl rfl rfl (by repeat (first | exact Sub.nil | refine Sub.pick ?_ | refine Sub.castO rfl ?_ | refine Sub.skip ?_)) (o_len sl22 rfl) ?_
 refine f_takeY 9 rfl (by decide +kernel) rfl rfl rfl rfl rfl (by repeat (first | exact Sub.nil | refine Sub.pick ?_ | refine Sub.castO rfl ?_ | refine Sub.skip ?_)) (o_add rfl rfl _ (wrap_i64 (by omega))) ?_
 refine f_takeY 10 rfl (by decide +kernel) rfl rfl rfl rfl rfl (by repeat (first | exact Sub.nil | refine Sub.pick ?_ | refine Sub.castO rfl ?_ | refine Sub.skip ?_)) (o_slice sl22 rfl rfl rfl rfl (fun h => by cases h) 0 (l.length + 1) _ (.inl ⟨rfl, rfl⟩) (.inr ⟨_, _, rfl, by omega⟩) (.inl ⟨rfl, rfl⟩) ⟨by omega, by omega, by omega⟩ (.slice (some ⟨b, 0, none⟩) (l.length + 1) c) (by rw [if_neg (by omega)]; simp [add_at])) ?_
 refine f_takeY 11 rfl (by decide +kernel) rfl rfl rfl rfl rfl (by repeat (first | exact Sub.nil | refine Sub.pick ?_ | refine Sub.castO rfl ?_ | refine Sub.skip ?_)) (o_field fa24_1 rfl) ?_
 refine f_takeY 12 rfl (by decide +kernel) rfl rfl rfl rfl rfl (by repeat (first | exact Sub.nil | refine Sub.pick ?_ | refine Sub.castO rfl ?_ | refine Sub.skip ?_)) (o_load Try.isAgg22 rfl (rdA rfl)) ?_
 refine f_takeY 13 rfl (by decide +kernel) rfl rfl rfl rfl rfl (by repeat (first | exact Sub.nil | refine Sub.pick ?_ | refine Sub.castO rfl ?_ | refine Sub.skip ?_)) (o_len sl22 rfl) ?_
 refine f_takeY 14 rfl (by decide +kernel) rfl rfl rfl rfl rfl (by repeat (first | exact Sub.nil | refine Sub.pick ?_ | refine Sub.castO rfl ?_ | refine Sub.skip ?_)) (o_idx sl22 rfl rfl (l.length * 3) ⟨by omega, by omega, by first | omega | (simp; done) | (simp; omega)⟩) ?_
 refine f_takeY 15 rfl (by decide +kernel) rfl rfl rfl rfl rfl (by repeat (first | exact Sub.nil | refine Sub.pick ?_ | refine Sub.castO rfl ?_ | refine Sub.skip ?_)) (o_field fa55_0 rfl) ?_
 refine f_takeY 16 rfl (by decide +kernel) rfl rfl rfl rfl rfl (by repeat (first | exact Sub.nil | refine Sub.pick ?_ | refine Sub.castO rfl ?_ | refine Sub.skip ?_)) (o_load Try.isAgg3 rfl (rdS hSx (v := .int .i64 (-77)) (by have := hcx (l.length * 3) (.int .i64 (-77)) (by rw [List.getElem?_append_right (by rw [flat_length arcCs arcCs_len]; exact Nat.le_refl _), flat_length arcCs arcCs_len, Nat.sub_self]; rfl); simpa using this))) ?_
 refine f_takeY 17 rfl (by decide +kernel) rfl rfl rfl rfl rfl (by repeat (first | exact Sub.nil | refine Sub.pick ?_ | refine Sub.castO rfl ?_ | refine Sub.skip ?_)) (o_eql rfl rfl) ?_
 refine f_take 18 rfl (by decide +kernel) rfl rfl rfl (by repeat (first | exact Sub.nil | refine Sub.pick ?_ | refine Sub.castO rfl ?_ | refine Sub.skip ?_)) (o_pickT rfl rfl) ?_
 refine f_only 19 rfl (by decide +kernel) rfl rfl rfl ((o_assign rfl).does ⟨(by repeat (first | exact Sub.nil | refine Sub.pick ?_ | refine Sub.castO rfl ?_ | refine Sub.skip ?_)), ?_⟩)
 refine f_over (by decide +kernel) ?_
 refine f_tn (kh2 _ _ ?_)
 clear kh2
 refine f_ret ?_
 exact f_fin1 [] Try.results14 rfl Sub.nil ⟨rfl, rfl⟩

set_option maxRecDepth 100000 in
set_option maxHeartbeats 4000000 in
theorem SpoilInts_spec (A : Option Addr) (len cap : Nat) (cs : List Value) (m : Seg) (x : Int) (w : World) (ho : Own 3 1 (.slice A len cap) len cs m) (hw : Owns w [m]) :
    Meets Try.prog 18 [.slice A len cap, .int .i64 x] w [m] (fun u own' => u = .tuple #[] ∧ own' = []) := by
 obtain ⟨_, _, e_, hlc, hc⟩ := ho.val
 cases e_
 obtain ⟨hA, cs', ho'⟩ := own_full ho
 clear ho
 refine f_enter Try.func18 rfl Try.ntmps18 rfl hw ?_
 refine f_seq fun K1 kh1 => ?_
 refine f_region ?_
 refine f_stepP rfl rfl rfl (o_move rfl) ?_
 refine f_stepP rfl rfl rfl (o_move rfl) ?_
 refine f_stepP rfl rfl rfl (o_cap sl35 rfl) ?_
 refine f_stepP rfl rfl rfl (o_slice sl35 rfl rfl rfl rfl (fun h => by cases h) 0 cap _ (.inl ⟨rfl, rfl⟩) (.inr ⟨_, _, rfl, by omega⟩) (.inl ⟨rfl, rfl⟩) ⟨by omega, by omega, by omega⟩ (.slice A cap cap) (by simp only [Nat.sub_zero]; rw [hA])) ?_
 refine f_stepP rfl rfl rfl (o_assign rfl) ?_
 refine f_done ?_
 refine f_tn (kh1 _ _ ?_)
 clear kh1
 refine f_seq fun K2 kh2 => ?_
 refine f_region ?_
 refine f_stepP rfl rfl rfl (o_assign rfl) ?_
 refine f_done ?_
 refine f_tn (kh2 _ _ ?_)
 clear kh2
 refine f_block ?_
 refine f_loop (α := Nat × List Value × Seg) [0, 1] (fun ⟨k, ds, x_⟩ => [(4, .int .i64 (k : Int))]) (fun ⟨k, ds, x_⟩ => [x_]) (fun ⟨k, ds, x_⟩ => k ≤ cap ∧ Own 3 1 (.slice A cap cap) cap ds x_) (fun ⟨k, ds, x_⟩ => cap - k) (0, cs', m) ?_ ?_ ?_ ?_
 · exact (by repeat (first | exact trivial | refine ⟨rfl, ?_⟩))
 · repeat (first | exact Sub.nil | refine Sub.pick ?_ | refine Sub.castO rfl ?_ | refine Sub.skip ?_)
 · exact ⟨Nat.zero_le _, ho'⟩
 ·
  rintro ⟨k, ds, x_⟩ ⟨hk, hx⟩
  refine f_seq fun K3 kh3 => ?_
  refine f_seq fun K4 kh4 => ?_
  refine f_region ?_
  refine f_stepP rfl rfl rfl (o_move rfl) ?_
  refine f_stepP rfl rfl rfl (o_move rfl) ?_
  refine f_stepP rfl rfl rfl (o_len sl35 rfl) ?_
  refine f_stepP rfl rfl rfl (o_lss rfl rfl) ?_
  refine f_done ?_
  refine f_tn (kh4 _ _ ?_)
  clear kh4
  refine f_cond rfl (fun c12 => ?_) (fun c12 => ?_)
  ·
   refine f_skip ?_
   refine f_tn (kh3 _ _ ?_)
   clear kh3
   refine f_seq fun K5 kh5 => ?_
   refine f_block ?_
   have hk' : k < cap := by omega
   obtain ⟨b, rfl, rfl⟩ : ∃ b, A = some ⟨b, 0, none⟩ ∧ x_ = [(b, blk ds 3)] := by
     obtain ⟨_, h | ⟨b, c, sp, e, hm, h1, h2, h3⟩⟩ := hx
     · omega
     · cases e
       have : sp = [] := List.length_eq_zero_iff.1 (by simpa using h3)
       subst this
       exact ⟨b, rfl, by simpa using hm⟩
   have hdl : ds.length = cap := by simpa using hx.1
   refine f_region ?_
   refine f_stepP rfl rfl rfl (o_move rfl) ?_
   refine f_stepP rfl rfl rfl (o_move rfl) ?_
   refine f_stepP rfl rfl rfl (o_move rfl) ?_
   refine f_stepP rfl rfl rfl (o_idx sl35 rfl rfl (k) ⟨by omega, by omega, by first | omega | (simp; done) | (simp; omega)⟩) ?_
   refine f_step0 rfl rfl (o_store Try.sizeOf3 rfl rfl rfl rfl (by omega) _ rfl ?_)
   refine f_done ?_
   refine f_bn ?_
   refine f_tn (kh5 _ _ ?_)
   clear kh5
   refine f_region ?_
   refine f_stepP rfl rfl rfl (o_move rfl) ?_
   refine f_stepP rfl rfl rfl (o_add rfl rfl _ (wrap_i64 (by omega))) ?_
   refine f_stepP rfl rfl rfl (o_assign rfl) ?_
   refine f_done ?_
   refine f_tn (f_again (k + 1, ds.set k (.int .i64 x), [(b, blk (ds.set k (.int .i64 x)) 3)]) (by first | omega | (dsimp only; omega) | (simp; omega)) ⟨by omega, by simpa using hx.1, .inr ⟨b, cap, [], rfl, by simp, Nat.le_refl _, hc, by simp⟩⟩ ?_ ?_ ?_)
   · exact (by repeat (first | exact trivial | refine ⟨rfl, ?_⟩))
   · exact (by repeat (first | exact trivial | refine ⟨rfl, ?_⟩))
   · repeat (first | exact Sub.nil | refine Sub.pick ?_ | refine Sub.castO rfl ?_ | refine Sub.skip ?_)
  ·
   refine f_exit ?_
   refine f_te ?_
   clear kh3
   refine f_te ?_
   refine f_be ?_
   exact f_fin0n [] Try.results18 Sub.empty ⟨rfl, rfl⟩

end Go.Proofs.Ytbjiejhdgkpjcaa

/- flyoverlaw08: refused, NatcutCuts, NatcutFragments. -/
namespace Go.Proofs.Ytbjiejhdgkpjcaa
open Go Go.RowKit Fly
set_option linter.unusedVariables false
set_option linter.unusedSimpArgs false


theorem gcheck_none {N : Int} (h : (gcheck N []).2 ≠ 0) : N < 1 ∨ 1024 < N := by
  refine Classical.byContradiction fun hn => h ?_
  rw [gcheck_ok (by omega) (by simp) (fun j hj => by simp at hj)]

set_option maxRecDepth 100000 in
set_option maxHeartbeats 4000000 in
theorem refused_spec (N : Int) (A : Option Addr) (l : List Arc) (cap : Nat) (w : World) (hr : Ro (Fr w []) w A (l.flatMap arcCs)) (hl : l.length ≤ 9223372036854775807) (hN : I64 N) (hok : ∀ x ∈ l, ArcOk x) :
    Meets Try.prog 8 [.agg #[.int .i64 N, .slice A l.length cap]] w [] (fun u m => ∃ b m', u = .bool b ∧ m = [m']) := by
 refine f_enter Try.func8 rfl Try.ntmps8 rfl Owns.nil ?_
 refine f_seq fun K1 kh1 => ?_
 refine f_region ?_
 refine f_step rfl rfl rfl (o_box rfl rfl fun b1 => ?_)
 refine f_stepP rfl rfl rfl (o_assign rfl) ?_
 refine f_done ?_
 refine f_tn (kh1 _ _ ?_)
 clear kh1
 refine f_seq fun K2 kh2 => ?_
 refine f_region ?_
 refine f_stepP rfl rfl rfl (o_field fa24_0 rfl) ?_
 refine f_stepP rfl rfl rfl (o_load Try.isAgg3 rfl (rdA rfl)) ?_
 refine f_stepP rfl rfl rfl (o_build (cs := [.int .i64 N, .slice none 0 0]) st24 rfl rfl) ?_
 refine f_step rfl rfl rfl (o_call Try.call27 rfl (fun w_ hp_ => RPairs_spec N none [] 0 w_ Ro.nil (by simp) hN (fun x hx => by cases hx)) ?_)
 rintro _ _ ⟨s, ms, rfl, rfl⟩
 dsimp only [List.cons_append, List.nil_append]
 refine f_stepP rfl rfl rfl (o_move rfl) ?_
 refine f_stepP rfl rfl rfl (o_extract rfl rfl) ?_
 refine f_stepP rfl rfl rfl (o_extract rfl rfl) ?_
 refine f_stepP rfl rfl rfl (o_assign rfl) ?_
 refine f_stepP rfl rfl rfl (o_assign rfl) ?_
 refine f_done ?_
 refine f_tn (kh2 _ _ ?_)
 clear kh2
 refine f_seq fun K3 kh3 => ?_
 refine f_region ?_
 refine f_stepP rfl rfl rfl (o_move rfl) ?_
 refine f_stepP rfl rfl rfl (o_eql rfl rfl) ?_
 refine f_stepP rfl rfl rfl (o_move rfl) ?_
 refine f_splitL 14 rfl (fun g14 => ?_) (fun g14 => ?_)
 ·
  refine f_stepPY rfl rfl rfl rfl rfl (o_loadA (vs := [_, _]) Try.isAgg24 Try.sizeOf24 rfl rfl ⟨(rdA rfl), (rdA rfl), trivial⟩) ?_
  refine f_stepY rfl rfl rfl rfl rfl (o_call Try.call19 rfl (fun w_ hp_ => large_spec N A l cap w_ (hr.up0 hp_) hl hN hok) ?_)
  rintro _ _ ⟨bL, rfl, rfl⟩
  dsimp only [List.cons_append, List.nil_append]
  refine f_stepP rfl rfl rfl (o_pickT rfl rfl) ?_
  refine f_stepP rfl rfl rfl (o_assign rfl) ?_
  refine f_done ?_
  refine f_tn (kh3 _ _ ?_)
  clear kh3
  refine f_ret ?_
  exact f_fin1 [[]] Try.results8 rfl (show Fly.Sub _ [[]] from (by repeat (first | exact Sub.nil | refine Sub.pick ?_ | refine Sub.castO rfl ?_ | refine Sub.skip ?_))) ⟨_, [], rfl, rfl⟩
 ·
  refine f_stepN rfl rfl rfl rfl rfl rfl ?_
  refine f_stepN rfl rfl rfl rfl rfl rfl ?_
  refine f_stepP rfl rfl rfl (o_pickF rfl rfl) ?_
  refine f_stepP rfl rfl rfl (o_assign rfl) ?_
  refine f_done ?_
  refine f_tn (kh3 _ _ ?_)
  clear kh3
  refine f_ret ?_
  exact f_fin1 [[]] Try.results8 rfl (show Fly.Sub _ [[]] from (by repeat (first | exact Sub.nil | refine Sub.pick ?_ | refine Sub.castO rfl ?_ | refine Sub.skip ?_))) ⟨_, [], rfl, rfl⟩

set_option maxRecDepth 100000 in
set_option maxHeartbeats 4000000 in
theorem NatcutCuts_spec (N : Int) (A : Option Addr) (l : List Arc) (cap : Nat) (c most : Int) (w : World) (hr : Ro (Fr w []) w A (l.flatMap arcCs)) (hl : l.length ≤ 9223372036854775807) (hN : I64 N) (hok : ∀ x ∈ l, ArcOk x) (hz : l.length * 24 ≤ 140737488351232) :
    Meets Try.prog 3 [.agg #[.int .i64 N, .slice A l.length cap], .int .i64 c, .int .i64 most] w [] (fun u m => u = .bool true ∧ m = []) := by
 refine f_enter Try.func3 rfl Try.ntmps3 rfl Owns.nil ?_
 refine f_seq fun K1 kh1 => ?_
 refine f_region ?_
 refine f_step rfl rfl rfl (o_box rfl rfl fun b3 => ?_)
 refine f_stepP rfl rfl rfl (o_assign rfl) ?_
 refine f_done ?_
 refine f_tn (kh1 _ _ ?_)
 clear kh1
 refine f_seq fun K2 kh2 => ?_
 refine f_seq fun K3 kh3 => ?_
 refine f_region ?_
 refine f_stepP rfl rfl rfl (o_loadA (vs := [_, _]) Try.isAgg24 Try.sizeOf24 rfl rfl ⟨(rdA rfl), (rdA rfl), trivial⟩) ?_
 refine f_step rfl rfl rfl (o_call Try.call8 rfl (fun w_ hp_ => refused_spec N A l cap w_ (hr.up0 hp_) hl hN hok) ?_)
 rintro _ _ ⟨bR, mR, rfl, rfl⟩
 dsimp only [List.cons_append, List.nil_append]
 refine f_done ?_
 refine f_tn (kh3 _ _ ?_)
 clear kh3
 refine f_condB rfl (fun c13 => ?_) (fun c13 => ?_)
 ·
  refine f_seq fun K4 kh4 => ?_
  refine f_region ?_
  refine f_step rfl rfl rfl (o_call Try.call9 rfl (fun w_ hp_ => works_spec w_) ?_)
  rintro _ _ ⟨rfl, rfl⟩
  dsimp only [List.cons_append, List.nil_append]
  refine f_stepP rfl rfl rfl (o_assign rfl) ?_
  refine f_done ?_
  refine f_tn (kh4 _ _ ?_)
  clear kh4
  refine f_ret ?_
  refine f_tr ?_
  exact f_fin1 [] Try.results3 rfl Sub.nil ⟨rfl, rfl⟩
 ·
  refine f_skip ?_
  refine f_tn (kh2 _ _ ?_)
  clear kh2
  refine f_seq fun K5 kh5 => ?_
  refine f_region ?_
  refine f_stepP rfl rfl rfl (o_loadA (vs := [_, _]) Try.isAgg24 Try.sizeOf24 rfl rfl ⟨(rdA rfl), (rdA rfl), trivial⟩) ?_
  refine f_step rfl rfl rfl (o_call Try.call10 rfl (fun w_ hp_ => LendGraph_spec N A l cap w_ (hr.up0 hp_) hz) ?_)
  rintro _ _ ⟨bg, cg, rg, rfl, rfl, hg1, hg2⟩
  dsimp only [List.cons_append, List.nil_append]
  refine f_step rfl rfl rfl (o_alloc Try.zeroValue24 rfl fun b7 => ?_)
  refine f_step0 rfl rfl (o_storeA Try.sizeOf24 rfl rfl rfl rfl (by first | exact Nat.le_of_ble_eq_true rfl | (simp; done) | (simp; omega)) [.int .i64 N, .slice (some ⟨bg, 0, none⟩) l.length cg] rfl ?_)
  refine f_done ?_
  refine f_tn (kh5 _ _ ?_)
  clear kh5
  refine f_seq fun K6 kh6 => ?_
  refine f_region ?_
  refine f_stepP rfl rfl rfl (o_loadA (vs := [_, _]) Try.isAgg24 Try.sizeOf24 rfl rfl ⟨(rdA rfl), (rdA rfl), trivial⟩) ?_
  refine f_stepP rfl rfl rfl (o_move rfl) ?_
  refine f_stepP rfl rfl rfl (o_move rfl) ?_
  refine f_step rfl rfl rfl (o_call Try.call11 rfl (fun w_ hp_ => CutN_spec N (some ⟨bg, 0, none⟩) l cg c most w_ (roOwn (b := bg) hp_ (cs := l.flatMap arcCs) (fun j v hj => app_get hj)) hl hN hok) ?_)
  rintro _ _ ⟨C, AC, cC, mC, rfl, rfl, hoC, hCe, hC0⟩
  dsimp only [List.cons_append, List.nil_append]
  refine f_stepP rfl rfl rfl (o_move rfl) ?_
  refine f_stepP rfl rfl rfl (o_extract rfl rfl) ?_
  refine f_stepP rfl rfl rfl (o_extract rfl rfl) ?_
  refine f_stepP rfl rfl rfl (o_assign rfl) ?_
  refine f_stepP rfl rfl rfl (o_assign rfl) ?_
  refine f_done ?_
  refine f_tn (kh6 _ _ ?_)
  clear kh6
  refine f_seq fun K7 kh7 => ?_
  refine f_region ?_
  refine f_stepP rfl rfl rfl (o_loadA (vs := [_, _]) Try.isAgg24 Try.sizeOf24 rfl rfl ⟨(rdA rfl), (rdA rfl), trivial⟩) ?_
  refine f_stepP rfl rfl rfl (o_move rfl) ?_
  refine f_stepP rfl rfl rfl (o_move rfl) ?_
  refine f_step rfl rfl rfl (o_call Try.call12 rfl (fun w_ hp_ => RCutN_spec N A l cap c most w_ (hr.up0 hp_) hl hN hok) ?_)
  rintro _ _ ⟨C2, AC2, cC2, mC2, rfl, rfl, hoC2, hCe2, hC02⟩
  obtain rfl : C2 = C := by
    by_cases hne : ncE N l c most = 0
    · have hgn := regR_rng (show (regR N l c most).2 = 0 from by
        unfold ncE at hne
        by_cases h1 : (regR N l c most).2 = 0
        · exact h1
        · rw [if_pos h1] at hne; exact hne)
      obtain ⟨n0, hn0⟩ : ∃ n : Nat, N = (n : Int) := ⟨N.toNat, by have := gcheck_zero hgn; omega⟩
      have h1 := hC0 hne
      have h2 := hC02 hne
      rw [hn0, Int.toNat_natCast] at h1 h2
      exact nc_unique (by rw [← hn0]; exact hne) h2 h1
    · rw [hCe hne, hCe2 hne]
  have hC8 : C2.length ≤ 9223372036854775807 := by have := hoC2.val; obtain ⟨_, _, e, h⟩ := this; cases e; omega
  dsimp only [List.cons_append, List.nil_append]
  refine f_stepP rfl rfl rfl (o_move rfl) ?_
  refine f_stepP rfl rfl rfl (o_extract rfl rfl) ?_
  refine f_stepP rfl rfl rfl (o_extract rfl rfl) ?_
  refine f_stepP rfl rfl rfl (o_assign rfl) ?_
  refine f_stepP rfl rfl rfl (o_assign rfl) ?_
  refine f_done ?_
  refine f_tn (kh7 _ _ ?_)
  clear kh7
  refine f_seq fun K8 kh8 => ?_
  refine f_region ?_
  refine f_stepP rfl rfl rfl (o_move rfl) ?_
  refine f_stepP rfl rfl rfl (o_move rfl) ?_
  refine f_step rfl rfl rfl (o_call Try.call13 rfl (fun w_ hp_ => SamePairs_spec AC AC2 C2 C2 C2.length cC2 w_ (seen_ro (hoC.seen hp_)) (seen_ro (hoC2.seen hp_)) hC8) ?_)
  rintro _ _ ⟨rfl, rfl⟩
  rw [decide_eq_true rfl]
  dsimp only [List.cons_append, List.nil_append]
  refine f_stepP rfl rfl rfl (o_move rfl) ?_
  refine f_stepPY rfl rfl rfl rfl rfl (o_move rfl) ?_
  refine f_stepPY rfl rfl rfl rfl rfl (o_move rfl) ?_
  refine f_stepPY rfl rfl rfl rfl rfl (o_eql rfl rfl) ?_
  refine f_stepP rfl rfl rfl (o_pickT rfl rfl) ?_
  refine f_stepP rfl rfl rfl (o_move rfl) ?_
  refine f_trueL 39 rfl (by simp) ?_
  refine f_stepPY rfl rfl rfl rfl rfl (o_loadA (vs := [_, _]) Try.isAgg24 Try.sizeOf24 rfl rfl ⟨(rdA rfl), (rdA rfl), trivial⟩) ?_
  refine f_stepPY rfl rfl rfl rfl rfl (o_loadA (vs := [_, _]) Try.isAgg24 Try.sizeOf24 rfl rfl ⟨(rdA rfl), (rdA rfl), trivial⟩) ?_
  refine f_stepY rfl rfl rfl rfl rfl (o_call Try.call14 rfl (fun w_ hp_ => KeptGraph_spec N bg cg A l cap rg w_ (roOwn (b := bg) hp_ (fun j v hj => hj)) (hr.up0 hp_) hg1 hg2) ?_)
  rintro _ _ ⟨rfl, rfl⟩
  dsimp only [List.cons_append, List.nil_append]
  refine f_stepP rfl rfl rfl (o_pickT rfl rfl) ?_
  refine f_stepP rfl rfl rfl (o_move rfl) ?_
  refine f_stepY rfl rfl rfl rfl rfl (o_call Try.call9 rfl (fun w_ hp_ => works_spec w_) ?_)
  rintro _ _ ⟨rfl, rfl⟩
  dsimp only [List.cons_append, List.nil_append]
  refine f_stepP rfl rfl rfl (o_pickT rfl rfl) ?_
  refine f_stepP rfl rfl rfl (o_assign rfl) ?_
  refine f_done ?_
  refine f_tn (kh8 _ _ ?_)
  clear kh8
  refine f_ret ?_
  exact f_fin1 [] Try.results3 rfl Sub.nil ⟨rfl, rfl⟩

set_option maxRecDepth 100000 in
set_option maxHeartbeats 4000000 in
theorem NatcutFragments_spec (N : Int) (A : Option Addr) (l : List Arc) (cap : Nat) (B : Option Addr) (M : List Pr) (cb : Nat) (w : World) (hr : Ro (Fr w []) w A (l.flatMap arcCs)) (hl : l.length ≤ 9223372036854775807) (hN : I64 N) (hok : ∀ x ∈ l, ArcOk x) (hz : l.length * 24 ≤ 140737488351232) (hM : Ro (Fr w []) w B (M.flatMap prCs)) (hm : M.length ≤ 9223372036854775807) (hMk : ∀ p ∈ M, I64 p.1 ∧ I64 p.2) (hzM : M.length * 16 ≤ 140737488351232) :
    Meets Try.prog 4 [.agg #[.int .i64 N, .slice A l.length cap], .slice B M.length cb] w [] (fun u m => u = .bool true ∧ m = []) := by
 refine f_enter Try.func4 rfl Try.ntmps4 rfl Owns.nil ?_
 refine f_seq fun K1 kh1 => ?_
 refine f_region ?_
 refine f_step rfl rfl rfl (o_box rfl rfl fun b2 => ?_)
 refine f_stepP rfl rfl rfl (o_assign rfl) ?_
 refine f_done ?_
 refine f_tn (kh1 _ _ ?_)
 clear kh1
 refine f_seq fun K2 kh2 => ?_
 refine f_seq fun K3 kh3 => ?_
 refine f_region ?_
 refine f_stepP rfl rfl rfl (o_loadA (vs := [_, _]) Try.isAgg24 Try.sizeOf24 rfl rfl ⟨(rdA rfl), (rdA rfl), trivial⟩) ?_
 refine f_step rfl rfl rfl (o_call Try.call8 rfl (fun w_ hp_ => refused_spec N A l cap w_ (hr.up0 hp_) hl hN hok) ?_)
 rintro _ _ ⟨bR, mR, rfl, rfl⟩
 dsimp only [List.cons_append, List.nil_append]
 refine f_stepP rfl rfl rfl (o_move rfl) ?_
 refine f_splitLB 13 rfl (fun g13 => ?_) (fun g13 => ?_)
 ·
  refine f_stepN rfl rfl rfl rfl rfl rfl ?_
  refine f_stepN rfl rfl rfl rfl rfl rfl ?_
  refine f_stepN rfl rfl rfl rfl rfl rfl ?_
  refine f_stepN rfl rfl rfl rfl rfl rfl ?_
  refine f_stepU rfl rfl rfl rfl rfl ?_
  refine f_stepU rfl rfl rfl rfl rfl ?_
  refine f_stepU rfl rfl rfl rfl rfl ?_
  refine f_stepN rfl rfl rfl rfl rfl rfl ?_
  refine f_stepP rfl rfl rfl (o_pickT rfl rfl) ?_
  refine f_done ?_
  refine f_tn (kh3 _ _ ?_)
  clear kh3
  refine f_condT rfl ?_
  refine f_seq fun K4 kh4 => ?_
  refine f_region ?_
  refine f_step rfl rfl rfl (o_call Try.call9 rfl (fun w_ hp_ => works_spec w_) ?_)
  rintro _ _ ⟨rfl, rfl⟩
  dsimp only [List.cons_append, List.nil_append]
  refine f_stepP rfl rfl rfl (o_assign rfl) ?_
  refine f_done ?_
  refine f_tn (kh4 _ _ ?_)
  clear kh4
  refine f_ret ?_
  refine f_tr ?_
  exact f_fin1 [] Try.results4 rfl Sub.nil ⟨rfl, rfl⟩
 ·
  refine f_stepPY rfl rfl rfl rfl rfl (o_move rfl) ?_
  refine f_stepPY rfl rfl rfl rfl rfl (o_len sl28 rfl) ?_
  refine f_stepPY rfl rfl rfl rfl rfl (o_gtr rfl rfl) ?_
  refine f_stepPY rfl rfl rfl rfl rfl (o_move rfl) ?_
  refine f_splitL 17 rfl (fun g17 => ?_) (fun g17 => ?_)
  ·
   refine f_stepPY rfl rfl rfl rfl rfl (o_move rfl) ?_
   refine f_stepPY rfl rfl rfl rfl rfl (o_len sl28 rfl) ?_
   refine f_stepPY rfl rfl rfl rfl rfl (o_leq rfl rfl) ?_
   refine f_stepPY rfl rfl rfl rfl rfl (o_pickT rfl rfl) ?_
   refine f_stepP rfl rfl rfl (o_pickF rfl rfl) ?_
   refine f_done ?_
   refine f_tn (kh3 _ _ ?_)
   clear kh3
   refine f_cond rfl (fun c22 => ?_) (fun c22 => ?_)
   ·
    refine f_seq fun K5 kh5 => ?_
    refine f_region ?_
    refine f_step rfl rfl rfl (o_call Try.call9 rfl (fun w_ hp_ => works_spec w_) ?_)
    rintro _ _ ⟨rfl, rfl⟩
    dsimp only [List.cons_append, List.nil_append]
    refine f_stepP rfl rfl rfl (o_assign rfl) ?_
    refine f_done ?_
    refine f_tn (kh5 _ _ ?_)
    clear kh5
    refine f_ret ?_
    refine f_tr ?_
    exact f_fin1 [] Try.results4 rfl Sub.nil ⟨rfl, rfl⟩
   ·
    refine f_skip ?_
    refine f_tn (kh2 _ _ ?_)
    clear kh2
    refine f_seq fun K6 kh6 => ?_
    refine f_region ?_
    refine f_stepP rfl rfl rfl (o_loadA (vs := [_, _]) Try.isAgg24 Try.sizeOf24 rfl rfl ⟨(rdA rfl), (rdA rfl), trivial⟩) ?_
    refine f_step rfl rfl rfl (o_call Try.call10 rfl (fun w_ hp_ => LendGraph_spec N A l cap w_ (hr.up0 hp_) hz) ?_)
    rintro _ _ ⟨bg, cg, rg, rfl, rfl, hg1, hg2⟩
    dsimp only [List.cons_append, List.nil_append]
    refine f_step rfl rfl rfl (o_slice0 el28 fun b26 => ?_)
    refine f_stepP rfl rfl rfl (o_move rfl) ?_
    refine f_step rfl rfl rfl (o_appendQ el28 rfl rfl (Own.mk (b := b26) (cs := []) (len := 0) rfl (by omega)) (ys := M.flatMap prCs) (rds_ro' hM) (flat_length prCs prCs_len M) (prs_one M) (by omega) (by omega) ?_)
    rintro v28 m28 o28
    rw [Nat.zero_add, List.nil_append] at o28
    obtain ⟨A28, c28, rfl, _⟩ := o28.val
    refine f_step rfl rfl rfl (o_alloc Try.zeroValue24 rfl fun b5 => ?_)
    refine f_step0 rfl rfl (o_storeA Try.sizeOf24 rfl rfl rfl rfl (by first | exact Nat.le_of_ble_eq_true rfl | (simp; done) | (simp; omega)) [.int .i64 N, .slice (some ⟨bg, 0, none⟩) l.length cg] rfl ?_)
    refine f_stepP rfl rfl rfl (o_assign rfl) ?_
    refine f_done ?_
    refine f_tn (kh6 _ _ ?_)
    clear kh6
    refine f_seq fun K7 kh7 => ?_
    refine f_region ?_
    refine f_stepP rfl rfl rfl (o_loadA (vs := [_, _]) Try.isAgg24 Try.sizeOf24 rfl rfl ⟨(rdA rfl), (rdA rfl), trivial⟩) ?_
    refine f_stepP rfl rfl rfl (o_move rfl) ?_
    refine f_step rfl rfl rfl (o_call Try.call15 rfl (fun w_ hp_ => Fragments_spec N (some ⟨bg, 0, none⟩) A28 l cg M c28 w_ (roOwn (b := bg) hp_ (cs := l.flatMap arcCs) (fun j v hj => app_get hj)) hl hN hok (seen_ro (o28.seen hp_)) hm hMk) ?_)
    rintro _ _ ⟨P, AP, cP, mP, rfl, rfl, hoP, hP0, hPe⟩
    dsimp only [List.cons_append, List.nil_append]
    refine f_stepP rfl rfl rfl (o_move rfl) ?_
    refine f_stepP rfl rfl rfl (o_extract rfl rfl) ?_
    refine f_stepP rfl rfl rfl (o_extract rfl rfl) ?_
    refine f_stepP rfl rfl rfl (o_assign rfl) ?_
    refine f_stepP rfl rfl rfl (o_assign rfl) ?_
    refine f_done ?_
    refine f_tn (kh7 _ _ ?_)
    clear kh7
    refine f_seq fun K8 kh8 => ?_
    refine f_region ?_
    refine f_stepP rfl rfl rfl (o_loadA (vs := [_, _]) Try.isAgg24 Try.sizeOf24 rfl rfl ⟨(rdA rfl), (rdA rfl), trivial⟩) ?_
    refine f_stepP rfl rfl rfl (o_move rfl) ?_
    refine f_step rfl rfl rfl (o_call Try.call16 rfl (fun w_ hp_ => RFragments_spec N A B l cap M cb w_ (hr.up0 hp_) hl hN hok (hM.up0 hp_) hm hMk) ?_)
    rintro _ _ ⟨P2, AP2, cP2, mP2, rfl, rfl, hoP2, hP02, hPe2⟩
    obtain rfl : P2 = P := by
      by_cases hne : fragE N l M = 0
      · obtain ⟨p1, rfl, h1⟩ := hP0 hne
        obtain ⟨p2, rfl, h2⟩ := hP02 hne
        rw [h1.unique h2 fun _ _ _ _ => Iff.rfl]
      · rw [hPe hne, hPe2 hne]
    have hP8 : P2.length ≤ 9223372036854775807 := by have := hoP2.val; obtain ⟨_, _, e, h⟩ := this; cases e; omega
    dsimp only [List.cons_append, List.nil_append]
    refine f_stepP rfl rfl rfl (o_move rfl) ?_
    refine f_stepP rfl rfl rfl (o_extract rfl rfl) ?_
    refine f_stepP rfl rfl rfl (o_extract rfl rfl) ?_
    refine f_stepP rfl rfl rfl (o_assign rfl) ?_
    refine f_stepP rfl rfl rfl (o_assign rfl) ?_
    refine f_done ?_
    refine f_tn (kh8 _ _ ?_)
    clear kh8
    refine f_seq fun K9 kh9 => ?_
    refine f_seq fun K10 kh10 => ?_
    refine f_region ?_
    refine f_stepP rfl rfl rfl (o_move rfl) ?_
    refine f_stepP rfl rfl rfl (o_move rfl) ?_
    refine f_step rfl rfl rfl (o_call Try.call17 rfl (fun w_ hp_ => SameInts_spec AP AP2 P2 P2 cP cP2 w_ (seen_ro (hoP.seen hp_)) (seen_ro (hoP2.seen hp_)) hP8) ?_)
    rintro _ _ ⟨rfl, rfl⟩
    rw [decide_eq_true rfl]
    dsimp only [List.cons_append, List.nil_append]
    refine f_stepP rfl rfl rfl (o_not rfl) ?_
    refine f_stepP rfl rfl rfl (o_move rfl) ?_
    refine f_stepPY rfl rfl rfl rfl rfl (o_move rfl) ?_
    refine f_stepPY rfl rfl rfl rfl rfl (o_move rfl) ?_
    refine f_stepPY rfl rfl rfl rfl rfl (o_neq rfl rfl) ?_
    refine f_stepP rfl rfl rfl (o_pickF rfl rfl) ?_
    refine f_done ?_
    refine f_tn (kh10 _ _ ?_)
    clear kh10
    refine f_condN rfl (by simp) ?_
    refine f_skip ?_
    refine f_tn (kh9 _ _ ?_)
    clear kh9
    refine f_seq fun K11 kh11 => ?_
    refine f_region ?_
    refine f_stepP rfl rfl rfl (o_move rfl) ?_
    refine f_step rfl rfl rfl (o_callM [mP] _ Try.call18 rfl (by repeat (first | exact Sub.refl | refine Sub.pick ?_)) (fun w_ hp_ => SpoilInts_spec AP P2.length cP (ints P2) mP (-7) w_ hoP hp_.owns) ?_)
    rintro _ _ ⟨rfl, rfl⟩
    dsimp only [List.cons_append, List.nil_append]
    refine f_done ?_
    refine f_tn (kh11 _ _ ?_)
    clear kh11
    refine f_seq fun K12 kh12 => ?_
    refine f_region ?_
    refine f_stepP rfl rfl rfl (o_loadA (vs := [_, _]) Try.isAgg24 Try.sizeOf24 rfl rfl ⟨(rdA rfl), (rdA rfl), trivial⟩) ?_
    refine f_stepP rfl rfl rfl (o_loadA (vs := [_, _]) Try.isAgg24 Try.sizeOf24 rfl rfl ⟨(rdA rfl), (rdA rfl), trivial⟩) ?_
    refine f_step rfl rfl rfl (o_call Try.call14 rfl (fun w_ hp_ => KeptGraph_spec N bg cg A l cap rg w_ (roOwn (b := bg) hp_ (fun j v hj => hj)) (hr.up0 hp_) hg1 hg2) ?_)
    rintro _ _ ⟨rfl, rfl⟩
    dsimp only [List.cons_append, List.nil_append]
    refine f_stepP rfl rfl rfl (o_move rfl) ?_
    refine f_stepPY rfl rfl rfl rfl rfl (o_move rfl) ?_
    refine f_stepPY rfl rfl rfl rfl rfl (o_move rfl) ?_
    refine f_stepY rfl rfl rfl rfl rfl (o_call Try.call13 rfl (fun w_ hp_ => SamePairs_spec A28 B M M c28 cb w_ (seen_ro (o28.seen hp_)) (hM.up0 hp_) hm) ?_)
    rintro _ _ ⟨rfl, rfl⟩
    rw [decide_eq_true rfl]
    dsimp only [List.cons_append, List.nil_append]
    refine f_stepP rfl rfl rfl (o_pickT rfl rfl) ?_
    refine f_stepP rfl rfl rfl (o_move rfl) ?_
    refine f_stepY rfl rfl rfl rfl rfl (o_call Try.call9 rfl (fun w_ hp_ => works_spec w_) ?_)
    rintro _ _ ⟨rfl, rfl⟩
    dsimp only [List.cons_append, List.nil_append]
    refine f_stepP rfl rfl rfl (o_pickT rfl rfl) ?_
    refine f_stepP rfl rfl rfl (o_assign rfl) ?_
    refine f_done ?_
    refine f_tn (kh12 _ _ ?_)
    clear kh12
    refine f_ret ?_
    exact f_fin1 [] Try.results4 rfl Sub.nil ⟨rfl, rfl⟩
  ·
   refine f_stepN rfl rfl rfl rfl rfl rfl ?_
   refine f_stepN rfl rfl rfl rfl rfl rfl ?_
   refine f_stepN rfl rfl rfl rfl rfl rfl ?_
   refine f_stepPY rfl rfl rfl rfl rfl (o_pickF rfl rfl) ?_
   refine f_stepP rfl rfl rfl (o_pickF rfl rfl) ?_
   refine f_done ?_
   refine f_tn (kh3 _ _ ?_)
   clear kh3
   refine f_condF rfl ?_
   refine f_skip ?_
   refine f_tn (kh2 _ _ ?_)
   clear kh2
   refine f_seq fun K13 kh13 => ?_
   refine f_region ?_
   refine f_stepP rfl rfl rfl (o_loadA (vs := [_, _]) Try.isAgg24 Try.sizeOf24 rfl rfl ⟨(rdA rfl), (rdA rfl), trivial⟩) ?_
   refine f_step rfl rfl rfl (o_call Try.call10 rfl (fun w_ hp_ => LendGraph_spec N A l cap w_ (hr.up0 hp_) hz) ?_)
   rintro _ _ ⟨bg, cg, rg, rfl, rfl, hg1, hg2⟩
   dsimp only [List.cons_append, List.nil_append]
   refine f_step rfl rfl rfl (o_slice0 el28 fun b26 => ?_)
   refine f_stepP rfl rfl rfl (o_move rfl) ?_
   refine f_step rfl rfl rfl (o_appendQ el28 rfl rfl (Own.mk (b := b26) (cs := []) (len := 0) rfl (by omega)) (ys := M.flatMap prCs) (rds_ro' hM) (flat_length prCs prCs_len M) (prs_one M) (by omega) (by omega) ?_)
   rintro v28 m28 o28
   rw [Nat.zero_add, List.nil_append] at o28
   obtain ⟨A28, c28, rfl, _⟩ := o28.val
   refine f_step rfl rfl rfl (o_alloc Try.zeroValue24 rfl fun b5 => ?_)
   refine f_step0 rfl rfl (o_storeA Try.sizeOf24 rfl rfl rfl rfl (by first | exact Nat.le_of_ble_eq_true rfl | (simp; done) | (simp; omega)) [.int .i64 N, .slice (some ⟨bg, 0, none⟩) l.length cg] rfl ?_)
   refine f_stepP rfl rfl rfl (o_assign rfl) ?_
   refine f_done ?_
   refine f_tn (kh13 _ _ ?_)
   clear kh13
   refine f_seq fun K14 kh14 => ?_
   refine f_region ?_
   refine f_stepP rfl rfl rfl (o_loadA (vs := [_, _]) Try.isAgg24 Try.sizeOf24 rfl rfl ⟨(rdA rfl), (rdA rfl), trivial⟩) ?_
   refine f_stepP rfl rfl rfl (o_move rfl) ?_
   refine f_step rfl rfl rfl (o_call Try.call15 rfl (fun w_ hp_ => Fragments_spec N (some ⟨bg, 0, none⟩) A28 l cg M c28 w_ (roOwn (b := bg) hp_ (cs := l.flatMap arcCs) (fun j v hj => app_get hj)) hl hN hok (seen_ro (o28.seen hp_)) hm hMk) ?_)
   rintro _ _ ⟨P, AP, cP, mP, rfl, rfl, hoP, hP0, hPe⟩
   dsimp only [List.cons_append, List.nil_append]
   refine f_stepP rfl rfl rfl (o_move rfl) ?_
   refine f_stepP rfl rfl rfl (o_extract rfl rfl) ?_
   refine f_stepP rfl rfl rfl (o_extract rfl rfl) ?_
   refine f_stepP rfl rfl rfl (o_assign rfl) ?_
   refine f_stepP rfl rfl rfl (o_assign rfl) ?_
   refine f_done ?_
   refine f_tn (kh14 _ _ ?_)
   clear kh14
   refine f_seq fun K15 kh15 => ?_
   refine f_region ?_
   refine f_stepP rfl rfl rfl (o_loadA (vs := [_, _]) Try.isAgg24 Try.sizeOf24 rfl rfl ⟨(rdA rfl), (rdA rfl), trivial⟩) ?_
   refine f_stepP rfl rfl rfl (o_move rfl) ?_
   refine f_step rfl rfl rfl (o_call Try.call16 rfl (fun w_ hp_ => RFragments_spec N A B l cap M cb w_ (hr.up0 hp_) hl hN hok (hM.up0 hp_) hm hMk) ?_)
   rintro _ _ ⟨P2, AP2, cP2, mP2, rfl, rfl, hoP2, hP02, hPe2⟩
   obtain rfl : P2 = P := by
     by_cases hne : fragE N l M = 0
     · obtain ⟨p1, rfl, h1⟩ := hP0 hne
       obtain ⟨p2, rfl, h2⟩ := hP02 hne
       rw [h1.unique h2 fun _ _ _ _ => Iff.rfl]
     · rw [hPe hne, hPe2 hne]
   have hP8 : P2.length ≤ 9223372036854775807 := by have := hoP2.val; obtain ⟨_, _, e, h⟩ := this; cases e; omega
   dsimp only [List.cons_append, List.nil_append]
   refine f_stepP rfl rfl rfl (o_move rfl) ?_
   refine f_stepP rfl rfl rfl (o_extract rfl rfl) ?_
   refine f_stepP rfl rfl rfl (o_extract rfl rfl) ?_
   refine f_stepP rfl rfl rfl (o_assign rfl) ?_
   refine f_stepP rfl rfl rfl (o_assign rfl) ?_
   refine f_done ?_
   refine f_tn (kh15 _ _ ?_)
   clear kh15
   refine f_seq fun K16 kh16 => ?_
   refine f_seq fun K17 kh17 => ?_
   refine f_region ?_
   refine f_stepP rfl rfl rfl (o_move rfl) ?_
   refine f_stepP rfl rfl rfl (o_move rfl) ?_
   refine f_step rfl rfl rfl (o_call Try.call17 rfl (fun w_ hp_ => SameInts_spec AP AP2 P2 P2 cP cP2 w_ (seen_ro (hoP.seen hp_)) (seen_ro (hoP2.seen hp_)) hP8) ?_)
   rintro _ _ ⟨rfl, rfl⟩
   rw [decide_eq_true rfl]
   dsimp only [List.cons_append, List.nil_append]
   refine f_stepP rfl rfl rfl (o_not rfl) ?_
   refine f_stepP rfl rfl rfl (o_move rfl) ?_
   refine f_stepPY rfl rfl rfl rfl rfl (o_move rfl) ?_
   refine f_stepPY rfl rfl rfl rfl rfl (o_move rfl) ?_
   refine f_stepPY rfl rfl rfl rfl rfl (o_neq rfl rfl) ?_
   refine f_stepP rfl rfl rfl (o_pickF rfl rfl) ?_
   refine f_done ?_
   refine f_tn (kh17 _ _ ?_)
   clear kh17
   refine f_condN rfl (by simp) ?_
   refine f_skip ?_
   refine f_tn (kh16 _ _ ?_)
   clear kh16
   refine f_seq fun K18 kh18 => ?_
   refine f_region ?_
   refine f_stepP rfl rfl rfl (o_move rfl) ?_
   refine f_step rfl rfl rfl (o_callM [mP] _ Try.call18 rfl (by repeat (first | exact Sub.refl | refine Sub.pick ?_)) (fun w_ hp_ => SpoilInts_spec AP P2.length cP (ints P2) mP (-7) w_ hoP hp_.owns) ?_)
   rintro _ _ ⟨rfl, rfl⟩
   dsimp only [List.cons_append, List.nil_append]
   refine f_done ?_
   refine f_tn (kh18 _ _ ?_)
   clear kh18
   refine f_seq fun K19 kh19 => ?_
   refine f_region ?_
   refine f_stepP rfl rfl rfl (o_loadA (vs := [_, _]) Try.isAgg24 Try.sizeOf24 rfl rfl ⟨(rdA rfl), (rdA rfl), trivial⟩) ?_
   refine f_stepP rfl rfl rfl (o_loadA (vs := [_, _]) Try.isAgg24 Try.sizeOf24 rfl rfl ⟨(rdA rfl), (rdA rfl), trivial⟩) ?_
   refine f_step rfl rfl rfl (o_call Try.call14 rfl (fun w_ hp_ => KeptGraph_spec N bg cg A l cap rg w_ (roOwn (b := bg) hp_ (fun j v hj => hj)) (hr.up0 hp_) hg1 hg2) ?_)
   rintro _ _ ⟨rfl, rfl⟩
   dsimp only [List.cons_append, List.nil_append]
   refine f_stepP rfl rfl rfl (o_move rfl) ?_
   refine f_stepPY rfl rfl rfl rfl rfl (o_move rfl) ?_
   refine f_stepPY rfl rfl rfl rfl rfl (o_move rfl) ?_
   refine f_stepY rfl rfl rfl rfl rfl (o_call Try.call13 rfl (fun w_ hp_ => SamePairs_spec A28 B M M c28 cb w_ (seen_ro (o28.seen hp_)) (hM.up0 hp_) hm) ?_)
   rintro _ _ ⟨rfl, rfl⟩
   rw [decide_eq_true rfl]
   dsimp only [List.cons_append, List.nil_append]
   refine f_stepP rfl rfl rfl (o_pickT rfl rfl) ?_
   refine f_stepP rfl rfl rfl (o_move rfl) ?_
   refine f_stepY rfl rfl rfl rfl rfl (o_call Try.call9 rfl (fun w_ hp_ => works_spec w_) ?_)
   rintro _ _ ⟨rfl, rfl⟩
   dsimp only [List.cons_append, List.nil_append]
   refine f_stepP rfl rfl rfl (o_pickT rfl rfl) ?_
   refine f_stepP rfl rfl rfl (o_assign rfl) ?_
   refine f_done ?_
   refine f_tn (kh19 _ _ ?_)
   clear kh19
   refine f_ret ?_
   exact f_fin1 [] Try.results4 rfl Sub.nil ⟨rfl, rfl⟩

end Go.Proofs.Ytbjiejhdgkpjcaa

/- How graphs of this program read. -/
namespace Go.Proofs.Ytbjiejhdgkpjcaa
open Go Go.RowKit Fly
set_option linter.unusedVariables false
set_option linter.unusedSimpArgs false


theorem rdArc {H : Type} {enc : TypeId × Value → H} (W : World) : Reads enc Try.prog W 55 arcCs ArcOk :=
  reads_arc Try.underlying55 (by kernel_rfl) ⟨rfl, by kernel_rfl⟩ ⟨rfl, by kernel_rfl⟩ ⟨rfl, by kernel_rfl⟩ Try.underlying3 Try.underlying3 Try.underlying53
theorem rdGraph {H : Type} {enc : TypeId × Value → H} (W : World) : Reads enc Try.prog W 24 (fun x : Int × Option Addr × List Arc × Nat => [.int .i64 x.1, .slice x.2.1 x.2.2.1.length x.2.2.2]) (fun x => GrIn W x.1 x.2.1 x.2.2.1 x.2.2.2) :=
  reads_graph Try.underlying24 (by kernel_rfl) ⟨rfl, by kernel_rfl⟩ ⟨rfl, by kernel_rfl⟩ Try.underlying3 Try.underlying22 (by kernel_rfl) (rdArc W)

end Go.Proofs.Ytbjiejhdgkpjcaa

/- How heavy an arc is. -/
namespace Go.Proofs.Ytbjiejhdgkpjcaa
open Go Go.RowKit Fly
set_option linter.unusedVariables false
set_option linter.unusedSimpArgs false


theorem bytesArc3 : Try.prog.bytesOf 55 = 24 := by kernel_rfl

end Go.Proofs.Ytbjiejhdgkpjcaa

/- How pairs read. -/
namespace Go.Proofs.Ytbjiejhdgkpjcaa
open Go Go.RowKit Fly
set_option linter.unusedVariables false
set_option linter.unusedSimpArgs false


theorem rdPr {H : Type} {enc : TypeId × Value → H} (W : World) : Reads enc Try.prog W 47 prCs (fun p => I64 p.1 ∧ I64 p.2) :=
  (reads2 Try.underlying47 (by kernel_rfl) ⟨rfl, by kernel_rfl⟩ ⟨rfl, by kernel_rfl⟩ (ca := fun n => .int .i64 n) (cb := fun n => .int .i64 n) (reads_i64 Try.underlying3) (reads_i64 Try.underlying3)).map (fun x => ((x.1, x.2) : Pr)) (fun x => rfl)
    fun x hx => hx
theorem bytesPr : Try.prog.bytesOf 47 = 16 := by kernel_rfl

end Go.Proofs.Ytbjiejhdgkpjcaa
