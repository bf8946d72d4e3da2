/- slices.IndexFunc, slices.ContainsFunc, slices.Clone over numbers. -/
import Derived.Test.YtkmkakpadgljeaaFlyT
import Derived.Test.YtkmkakpadgljeaaPGraph
namespace Go.Proofs.Ytkmkakpadgljeaa
open Go Go.RowKit Fly
set_option linter.unusedVariables false
set_option linter.unusedSimpArgs false


theorem anyG_no {α : Type} {p : α → Bool} {l : List α} {k : Nat} (hk : l.length ≤ k) (h : ∀ j (a : j < l.length), j < k → p l[j] = false) : l.any p = false := List.any_eq_false.2 fun x hx => by
  obtain ⟨i, hi, rfl⟩ := List.mem_iff_getElem.1 hx
  simp [h i hi (by omega)]
theorem anyG_yes {α : Type} {p : α → Bool} {l : List α} {k : Nat} (hk : k < l.length) (h : p l[k] = true) : l.any p = true := List.any_eq_true.2 ⟨_, List.getElem_mem hk, h⟩
theorem ints_oneG (l : List Int) : (ints l).all (·.oneCell') = true := by
  induction l with
  | nil => rfl
  | cons x l ih => rw [show ints (x :: l) = .int .i64 x :: ints l from rfl, List.all_cons, ih]; rfl

set_option maxRecDepth 100000 in
set_option maxHeartbeats 4000000 in
theorem IdxG_spec (A : Option Addr) (l : List Int) (cap : Nat) (p : Int → Bool) (fi : FuncId) (capi : List Value) (w : World) (hr : Ro (Fr w []) w A (ints l)) (hm : l.length ≤ 9223372036854775807) (hci : ∀ args w, (callFunc fi args).run Try.prog w = .ok (.enter fi args) w)
    (his : ∀ w', (∀ k, Fr w [] k → w'.heap[k]? = w.heap[k]?) → ∀ i, i ∈ l → Meets Try.prog fi ([.int .i64 i] ++ capi) w' [] (fun u m => u = .bool (p i) ∧ m = [])) :
    Meets Try.prog 61 [.slice A l.length cap, .func (.func fi) #[] capi.toArray] w [] (fun u m => ∃ r, u = .int .i64 r ∧ m = [] ∧ decide (0 ≤ r) = l.any p) := by
 refine f_enter Try.func61 rfl Try.ntmps61 rfl Owns.nil ?_
 refine f_seq fun K1 kh1 => ?_
 refine f_region ?_
 refine f_stepP rfl rfl rfl (o_assign rfl) ?_
 refine f_done ?_
 refine f_tn (kh1 _ _ ?_)
 clear kh1
 refine f_seq fun K2 kh2 => ?_
 refine f_seq fun K3 kh3 => ?_
 refine f_region ?_
 refine f_stepP rfl rfl rfl (o_move rfl) ?_
 refine f_stepP rfl rfl rfl (o_len sl25 rfl) ?_
 refine f_stepP rfl rfl rfl (o_move rfl) ?_
 refine f_done ?_
 refine f_tn (kh3 _ _ ?_)
 clear kh3
 refine f_block ?_
 refine f_loopK (α := Nat) [0, 1, 7] (fun k => [(8, .int .i64 (k : Int))]) (fun k => k ≤ l.length ∧ ∀ j (a : j < l.length), j < k → p l[j] = false) (fun k => l.length - k) (0) ?_ ?_ ?_
 · exact (by repeat (first | exact trivial | refine ⟨rfl, ?_⟩))
 · exact ⟨Nat.zero_le _, fun j _ h => by omega⟩
 ·
  rintro k ⟨hkl, hpre⟩
  refine f_seq fun K4 kh4 => ?_
  refine f_region ?_
  refine f_stepP rfl rfl rfl (o_lss rfl rfl) ?_
  refine f_done ?_
  refine f_tn (kh4 _ _ ?_)
  clear kh4
  refine f_seq fun K5 kh5 => ?_
  refine f_cond rfl (fun c9 => ?_) (fun c9 => ?_)
  ·
   refine f_skip ?_
   refine f_tn (kh5 _ _ ?_)
   clear kh5
   refine f_seq fun K6 kh6 => ?_
   refine f_block ?_
   refine f_seq fun K7 kh7 => ?_
   refine f_region ?_
   refine f_stepP rfl rfl rfl (o_move rfl) ?_
   refine f_stepP rfl rfl rfl (o_assign rfl) ?_
   refine f_done ?_
   refine f_tn (kh7 _ _ ?_)
   clear kh7
   refine f_seq fun K8 kh8 => ?_
   refine f_region ?_
   refine f_stepP rfl rfl rfl (o_move rfl) ?_
   refine f_stepP rfl rfl rfl (o_move rfl) ?_
   refine f_stepP rfl rfl rfl (o_move rfl) ?_
   have hk : k < l.length := by omega
   obtain ⟨b1, o1, rfl, hS1, hc1⟩ := hr (map_ne hk)
   refine f_stepP rfl rfl rfl (o_idx sl25 rfl rfl (o1 + k) ⟨by omega, by omega, by first | omega | (simp; done) | (simp; omega)⟩) ?_
   refine f_stepP rfl rfl rfl (o_load Try.isAgg3 rfl (roOne (enc := (.int .i64 ·)) hS1 hc1 hk)) ?_
   refine f_step rfl rfl rfl (o_callV [] _ hci rfl rfl Sub.refl (fun w_ hp_ => (by have h := his w_ (fun k hk => hp_.same k hk) _ (List.getElem_mem hk); exact h)) ?_)
   rintro _ _ ⟨rfl, rfl⟩
   dsimp only [List.cons_append, List.nil_append]
   refine f_done ?_
   refine f_tn (kh8 _ _ ?_)
   clear kh8
   refine f_condB rfl (fun c16 => ?_) (fun c16 => ?_)
   ·
    refine f_seq fun K9 kh9 => ?_
    refine f_region ?_
    refine f_stepP rfl rfl rfl (o_move rfl) ?_
    refine f_stepP rfl rfl rfl (o_assign rfl) ?_
    refine f_done ?_
    refine f_tn (kh9 _ _ ?_)
    clear kh9
    refine f_ret ?_
    refine f_br ?_
    refine f_tr ?_
    refine f_tr ?_
    refine f_br ?_
    refine f_tr ?_
    exact f_fin1 [] Try.results61 rfl Sub.nil ⟨_, rfl, rfl, by rw [anyG_yes hk c16]; simp⟩
   ·
    refine f_skip ?_
    refine f_bn ?_
    refine f_tn (kh6 _ _ ?_)
    clear kh6
    refine f_region ?_
    refine f_stepP rfl rfl rfl (o_add rfl rfl _ (wrap_i64 (by omega))) ?_
    refine f_stepP rfl rfl rfl (o_move rfl) ?_
    refine f_done ?_
    refine f_tn (f_again (k + 1) (by first | omega | (dsimp only; omega) | (simp; omega)) ⟨by omega, false_next (hk := hk) hpre (by simpa using c16)⟩ ?_ ?_ ?_)
    · exact (by repeat (first | exact trivial | refine ⟨rfl, ?_⟩))
    · exact (by repeat (first | exact trivial | refine ⟨rfl, ?_⟩))
    · repeat (first | exact Sub.nil | refine Sub.pick ?_ | refine Sub.castO rfl ?_ | refine Sub.skip ?_)
  ·
   refine f_exit ?_
   refine f_te ?_
   clear kh5
   refine f_te ?_
   refine f_be ?_
   refine f_tn (kh2 _ _ ?_)
   clear kh2
   refine f_seq fun K10 kh10 => ?_
   refine f_region ?_
   refine f_stepP rfl rfl rfl (o_assign rfl) ?_
   refine f_done ?_
   refine f_tn (kh10 _ _ ?_)
   clear kh10
   refine f_ret ?_
   exact f_fin1 [] Try.results61 rfl Sub.nil ⟨_, rfl, rfl, by rw [anyG_no (by omega) hpre]; rfl⟩

set_option maxRecDepth 100000 in
set_option maxHeartbeats 4000000 in
theorem ContG_spec (A : Option Addr) (l : List Int) (cap : Nat) (p : Int → Bool) (fi : FuncId) (capi : List Value) (w : World) (hr : Ro (Fr w []) w A (ints l)) (hm : l.length ≤ 9223372036854775807) (hci : ∀ args w, (callFunc fi args).run Try.prog w = .ok (.enter fi args) w)
    (his : ∀ w', (∀ k, Fr w [] k → w'.heap[k]? = w.heap[k]?) → ∀ i, i ∈ l → Meets Try.prog fi ([.int .i64 i] ++ capi) w' [] (fun u m => u = .bool (p i) ∧ m = [])) :
    Meets Try.prog 38 [.slice A l.length cap, .func (.func fi) #[] capi.toArray] w [] (fun u m => u = .bool (l.any p) ∧ m = []) := by
 refine f_enter Try.func38 rfl Try.ntmps38 rfl Owns.nil ?_
 refine f_seq fun K1 kh1 => ?_
 refine f_region ?_
 refine f_stepP rfl rfl rfl (o_assign rfl) ?_
 refine f_done ?_
 refine f_tn (kh1 _ _ ?_)
 clear kh1
 refine f_seq fun K2 kh2 => ?_
 refine f_region ?_
 refine f_stepP rfl rfl rfl (o_move rfl) ?_
 refine f_stepP rfl rfl rfl (o_move rfl) ?_
 refine f_step rfl rfl rfl (o_call Try.call61 rfl (fun w_ hp_ => IdxG_spec A l cap p fi capi w_ (hr.up0 hp_) hm hci (fun w' hs i hi => his w' (fun k hk => by rw [hs k ⟨Nat.lt_of_lt_of_le (hp_.lt k hk) hp_.size, by simp⟩]; exact hp_.same k hk) i hi)) ?_)
 rintro _ _ ⟨r, rfl, rfl, hr2⟩
 dsimp only [List.cons_append, List.nil_append]
 refine f_stepP rfl rfl rfl (o_geq rfl rfl) ?_
 refine f_stepP rfl rfl rfl (o_assign rfl) ?_
 refine f_done ?_
 refine f_tn (kh2 _ _ ?_)
 clear kh2
 refine f_ret ?_
 exact f_fin1 [] Try.results38 rfl Sub.nil ⟨by rw [← hr2], rfl⟩

end Go.Proofs.Ytkmkakpadgljeaa
