/- graph.Reverse: all arcs turned about. -/
import Derived.Test.YtegkdbicomedjaaFGraph
import Derived.Test.YtegkdbicomedjaaFBook
import Derived.Test.YtegkdbicomedjaaPParts
namespace Go.Proofs.Ytegkdbicomedjaa
open Go Go.RowKit Fly
set_option linter.unusedVariables false
set_option linter.unusedSimpArgs false


def revArc (x : Arc) : Arc := ⟨x.dst, x.src, x.wt⟩
def zArc : Arc := ⟨0, 0, 0⟩
theorem rev_rev (l : List Arc) : (l.map revArc).map revArc = l := by
  rw [List.map_map]; conv => rhs; rw [← List.map_id l]
  rfl
theorem rev_ok {l : List Arc} (h : ∀ x ∈ l, ArcOk x) : ∀ x ∈ l.map revArc, ArcOk x := fun x hx => by
  obtain ⟨y, hy, rfl⟩ := List.mem_map.1 hx
  exact ⟨(h y hy).dst, (h y hy).src, (h y hy).wt⟩
theorem gcheck_rev {N : Int} {l : List Arc} (h : (gcheck N l).2 = 0) : (gcheck N (l.map revArc)).2 = 0 := by
  obtain ⟨h1, h2, h3, h4⟩ := gcheck_zero h
  rw [gcheck_ok ⟨h1, h2⟩ (by simpa using h3)]
  intro j hj
  have hj' : j < l.length := by simpa using hj
  have := h4 j hj'
  rw [List.getElem_map]
  unfold arcBad revArc
  simp
  omega
theorem made_done {l o : List Arc} {k : Nat} (hl : o.length = l.length) (hk : l.length ≤ k) (h : ∀ j (a : j < o.length) (b : j < l.length), j < k → o[j] = revArc l[j]) : o = l.map revArc :=
  List.ext_getElem (by simp [hl]) fun j a b => by rw [List.getElem_map]; exact h j a (by simpa using b) (by have := a; omega)
def RevΦ (N : Int) (l : List Arc) (u : Value) (own : List Seg) : Prop :=
  if (gcheck N l).2 = 0 then ∃ b, u = .tuple #[.agg #[.int .i64 N, .slice (some ⟨b, 0, none⟩) (l.map revArc).length (l.map revArc).length], .int .i64 0] ∧ own = [[(b, blk ((l.map revArc).flatMap arcCs) 44)]]
  else u = .tuple #[.agg #[.int .i64 0, .slice none 0 0], .int .i64 (gcheck N l).2] ∧ own = []

set_option maxRecDepth 100000 in
set_option maxHeartbeats 4000000 in
theorem Reverse_spec (N : Int) (A : Option Addr) (l : List Arc) (cap : Nat) (w : World) (hr : Ro (Fr w []) w A (l.flatMap arcCs)) (hl : l.length ≤ 9223372036854775807) (hN : I64 N) (hok : ∀ x ∈ l, ArcOk x) :
    Meets Try.prog 26 [.agg #[.int .i64 N, .slice A l.length cap]] w [] (RevΦ N l) := by
  refine f_enter Try.func26 rfl Try.ntmps26 rfl Owns.nil ?_
  refine f_seq fun K1 kh1 => ?_
  refine f_region ?_
  refine f_step rfl rfl rfl (o_box rfl rfl fun b1 => ?_)
  refine f_step rfl rfl rfl (o_alloc Try.zeroValue24 rfl fun b2 => ?_)
  refine f_stepP rfl rfl rfl (o_assign rfl) ?_
  refine f_done ?_
  refine f_tn (kh1 _ _ ?_)
  clear kh1
  refine f_seq fun K2 kh2 => ?_
  refine f_seq fun K3 kh3 => ?_
  refine f_region ?_
  refine f_stepP rfl rfl rfl (o_loadA (vs := [_, _]) Try.isAgg24 Try.sizeOf24 rfl rfl ⟨(rdA rfl), (rdA rfl), trivial⟩) ?_
  refine f_step rfl rfl rfl (o_call Try.call47 rfl (fun w_ hp_ => Check_spec N A l cap w_ (hr.up0 hp_) hl hN hok) ?_)
  rintro _ _ ⟨rfl, rfl⟩
  dsimp only [List.cons_append, List.nil_append]
  refine f_stepP rfl rfl rfl (o_move rfl) ?_
  refine f_stepP rfl rfl rfl (o_extract rfl rfl) ?_
  refine f_stepP rfl rfl rfl (o_extract rfl rfl) ?_
  refine f_stepP rfl rfl rfl (o_assign rfl) ?_
  refine f_stepP rfl rfl rfl (o_assign rfl) ?_
  refine f_done ?_
  refine f_tn (kh3 _ _ ?_)
  clear kh3
  refine f_seq fun K4 kh4 => ?_
  refine f_region ?_
  refine f_stepP rfl rfl rfl (o_move rfl) ?_
  refine f_stepP rfl rfl rfl (o_neq rfl rfl) ?_
  refine f_done ?_
  refine f_tn (kh4 _ _ ?_)
  clear kh4
  refine f_cond rfl (fun c15 => ?_) (fun c15 => ?_)
  · skip
    refine f_seq fun K5 kh5 => ?_
    refine f_region ?_
    refine f_stepP rfl rfl rfl (o_build st24 rfl rfl) ?_
    refine f_stepP rfl rfl rfl (o_move rfl) ?_
    refine f_step0 rfl rfl (o_storeA Try.sizeOf24 rfl rfl rfl rfl (by first | exact Nat.le_of_ble_eq_true rfl | (simp; done) | (simp; omega)) _ rfl ?_)
    refine f_stepP rfl rfl rfl (o_assign rfl) ?_
    refine f_done ?_
    refine f_tn (kh5 _ _ ?_)
    clear kh5
    refine f_ret ?_
    refine f_tr ?_
    exact f_finR2 [] Try.results26 (rvA (vs := [.int .i64 0, .slice none 0 0]) Try.isAgg24 Try.sizeOf24 rfl rfl ⟨(rdA rfl), (rdA rfl), trivial⟩) (rv rfl) Sub.nil (by rw [RevΦ, if_neg (by simpa using c15)]; exact ⟨rfl, rfl⟩)
  · skip
    have hc0 : (gcheck N l).2 = 0 := by simpa using c15
    obtain ⟨hN1, hN2, hlen, hgood⟩ := gcheck_zero hc0
    refine f_skip ?_
    refine f_tn (kh2 _ _ ?_)
    clear kh2
    refine f_meet (α := Nat × Nat) [1, 2] (fun ⟨b6, b23⟩ => [(6, .pointer (some ⟨b6, 0, none⟩))]) (fun ⟨b6, b23⟩ => [[(b6, blk [.int .i64 N, .slice (some ⟨b23, 0, none⟩) l.length l.length] 24)], [(b23, blk ((List.replicate l.length zArc).flatMap arcCs) 44)], [(b1, blk [.int .i64 N, .slice A l.length cap] 24)], [(b2, blk [.int .i64 0, .slice none 0 0] 24)]]) (fun ⟨b6, b23⟩ => True) ?_ ?_
    · intro K6 kh6
      refine f_regionH [[(b1, blk [.int .i64 N, .slice A l.length cap] 24)]] rfl ?_
      refine f_take 0 rfl (by decide +kernel) rfl rfl rfl (by repeat (first | exact Sub.nil | refine Sub.pick ?_ | refine Sub.castO rfl ?_ | refine Sub.skip ?_)) (o_field fa24_0 rfl) ?_
      refine f_take 1 rfl (by decide +kernel) rfl rfl rfl (by repeat (first | exact Sub.nil | refine Sub.pick ?_ | refine Sub.castO rfl ?_ | refine Sub.skip ?_)) (o_load Try.isAgg3 rfl (rdA rfl)) ?_
      refine f_take 2 rfl (by decide +kernel) rfl rfl rfl (by repeat (first | exact Sub.nil | refine Sub.pick ?_ | refine Sub.castO rfl ?_ | refine Sub.skip ?_)) (o_field fa24_1 rfl) ?_
      refine f_take 3 rfl (by decide +kernel) rfl rfl rfl (by repeat (first | exact Sub.nil | refine Sub.pick ?_ | refine Sub.castO rfl ?_ | refine Sub.skip ?_)) (o_load Try.isAgg22 rfl (rdA rfl)) ?_
      refine f_take 4 rfl (by decide +kernel) rfl rfl rfl (by repeat (first | exact Sub.nil | refine Sub.pick ?_ | refine Sub.castO rfl ?_ | refine Sub.skip ?_)) (o_len sl22 rfl) ?_
      refine f_two 5 7 rfl rfl (by decide +kernel) rfl rfl rfl rfl rfl rfl ?_ ?_
      · skip
        refine (o_make el22 rfl rfl l.length rfl (by omega) (by omega) ((List.replicate l.length zArc).flatMap arcCs) (flat_replicate arcCs zArc l.length) fun b23 => ⟨(by repeat (first | exact Sub.nil | refine Sub.pick ?_ | refine Sub.castO rfl ?_ | refine Sub.skip ?_)), ?_⟩)
        refine f_take 6 rfl (by decide +kernel) rfl rfl rfl (by repeat (first | exact Sub.nil | refine Sub.pick ?_ | refine Sub.castO rfl ?_ | refine Sub.skip ?_)) (o_build (cs := [.int .i64 N, .slice (some ⟨b23, 0, none⟩) l.length l.length]) st24 rfl rfl) ?_
        refine f_only 7 rfl (by decide +kernel) rfl rfl rfl (o_alloc Try.zeroValue24 rfl fun b6 => ⟨(by repeat (first | exact Sub.nil | refine Sub.pick ?_ | refine Sub.castO rfl ?_ | refine Sub.skip ?_)), ?_⟩)
        refine f_only0 8 rfl (by decide +kernel) rfl rfl (o_storeA Try.sizeOf24 rfl rfl rfl rfl (by first | exact Nat.le_of_ble_eq_true rfl | (simp; done) | (simp; omega)) [.int .i64 N, .slice (some ⟨b23, 0, none⟩) l.length l.length] rfl ⟨(by repeat (first | exact Sub.nil | refine Sub.pick ?_ | refine Sub.castO rfl ?_ | refine Sub.skip ?_)), ?_⟩)
        refine f_over (by decide +kernel) ?_
        refine f_tn (kh6 _ _ ((b6, b23)) trivial ?_ ?_ ?_)
        · exact (by repeat (first | exact trivial | refine ⟨rfl, ?_⟩))
        · exact (by repeat (first | exact trivial | refine ⟨rfl, ?_⟩))
        · repeat (first | exact Sub.nil | refine Sub.pick ?_ | refine Sub.castO rfl ?_ | refine Sub.skip ?_)
      · skip
        refine (o_alloc Try.zeroValue24 rfl fun b6 => ⟨(by repeat (first | exact Sub.nil | refine Sub.pick ?_ | refine Sub.castO rfl ?_ | refine Sub.skip ?_)), ?_⟩)
        refine f_only 5 rfl (by decide +kernel) rfl rfl rfl (o_make el22 rfl rfl l.length rfl (by omega) (by omega) ((List.replicate l.length zArc).flatMap arcCs) (flat_replicate arcCs zArc l.length) fun b23 => ⟨(by repeat (first | exact Sub.nil | refine Sub.pick ?_ | refine Sub.castO rfl ?_ | refine Sub.skip ?_)), ?_⟩)
        refine f_take 6 rfl (by decide +kernel) rfl rfl rfl (by repeat (first | exact Sub.nil | refine Sub.pick ?_ | refine Sub.castO rfl ?_ | refine Sub.skip ?_)) (o_build (cs := [.int .i64 N, .slice (some ⟨b23, 0, none⟩) l.length l.length]) st24 rfl rfl) ?_
        refine f_only0 8 rfl (by decide +kernel) rfl rfl (o_storeA Try.sizeOf24 rfl rfl rfl rfl (by first | exact Nat.le_of_ble_eq_true rfl | (simp; done) | (simp; omega)) [.int .i64 N, .slice (some ⟨b23, 0, none⟩) l.length l.length] rfl ⟨(by repeat (first | exact Sub.nil | refine Sub.pick ?_ | refine Sub.castO rfl ?_ | refine Sub.skip ?_)), ?_⟩)
        refine f_over (by decide +kernel) ?_
        refine f_tn (kh6 _ _ ((b6, b23)) trivial ?_ ?_ ?_)
        · exact (by repeat (first | exact trivial | refine ⟨rfl, ?_⟩))
        · exact (by repeat (first | exact trivial | refine ⟨rfl, ?_⟩))
        · repeat (first | exact Sub.nil | refine Sub.pick ?_ | refine Sub.castO rfl ?_ | refine Sub.skip ?_)
    · rintro ⟨b6, b23⟩ _
      refine f_seq fun K7 kh7 => ?_
      refine f_seq fun K8 kh8 => ?_
      refine f_region ?_
      refine f_stepP rfl rfl rfl (o_field fa24_1 rfl) ?_
      refine f_stepP rfl rfl rfl (o_load Try.isAgg22 rfl (rdA rfl)) ?_
      refine f_stepP rfl rfl rfl (o_len sl22 rfl) ?_
      refine f_stepP rfl rfl rfl (o_move rfl) ?_
      refine f_done ?_
      refine f_tn (kh8 _ _ ?_)
      clear kh8
      refine f_block ?_
      refine f_loop (α := Nat × List Arc) [2, 6, 26, 27] (fun ⟨k, o⟩ => [(28, .int .i64 (k : Int))]) (fun ⟨k, o⟩ => [[(b6, blk [.int .i64 N, .slice (some ⟨b23, 0, none⟩) l.length l.length] 24)], [(b23, blk (o.flatMap arcCs) 44)], [(b1, blk [.int .i64 N, .slice A l.length cap] 24)], [(b2, blk [.int .i64 0, .slice none 0 0] 24)]]) (fun ⟨k, o⟩ => k ≤ l.length ∧ o.length = l.length ∧ ∀ j (a : j < o.length) (b : j < l.length), j < k → o[j] = revArc l[j]) (fun ⟨k, o⟩ => l.length - k) (0, List.replicate l.length zArc) ?_ ?_ ?_ ?_
      · exact (by repeat (first | exact trivial | refine ⟨rfl, ?_⟩))
      · repeat (first | exact Sub.nil | refine Sub.pick ?_ | refine Sub.castO rfl ?_ | refine Sub.skip ?_)
      · exact ⟨by omega, by simp, fun j _ _ hj => by omega⟩
      · rintro ⟨k, o⟩ ⟨hkl, hol, hpre⟩
        refine f_seq fun K9 kh9 => ?_
        refine f_region ?_
        refine f_stepP rfl rfl rfl (o_lss rfl rfl) ?_
        refine f_done ?_
        refine f_tn (kh9 _ _ ?_)
        clear kh9
        refine f_seq fun K10 kh10 => ?_
        refine f_cond rfl (fun c29 => ?_) (fun c29 => ?_)
        · skip
          refine f_skip ?_
          refine f_tn (kh10 _ _ ?_)
          clear kh10
          refine f_seq fun K11 kh11 => ?_
          refine f_block ?_
          refine f_seq fun K12 kh12 => ?_
          refine f_region ?_
          refine f_stepP rfl rfl rfl (o_move rfl) ?_
          have hk : k < l.length := by omega
          obtain ⟨bl, off, rfl, hS, hc⟩ := hr (flat_ne arcCs arcCs_len (by omega) hk)
          refine f_stepP rfl rfl rfl (o_idx sl22 rfl rfl (off + k * 3) ⟨by omega, by omega, by first | omega | (simp; done) | (simp; omega)⟩) ?_
          refine f_stepP rfl rfl rfl (o_loadA (vs := arcCs l[k]) Try.isAgg44 Try.sizeOf44 rfl rfl (roElem arcCs_len hS hc hk)) ?_
          refine f_step rfl rfl rfl (o_alloc Try.zeroValue44 rfl fun b8 => ?_)
          refine f_stepP rfl rfl rfl (o_assign rfl) ?_
          refine f_step0 rfl rfl (o_storeA Try.sizeOf44 rfl rfl rfl rfl (by first | exact Nat.le_of_ble_eq_true rfl | (simp; done) | (simp; omega)) _ rfl ?_)
          refine f_done ?_
          refine f_tn (kh12 _ _ ?_)
          clear kh12
          refine f_region ?_
          refine f_stepP rfl rfl rfl (o_field fa24_1 rfl) ?_
          refine f_stepP rfl rfl rfl (o_load Try.isAgg22 rfl (rdA rfl)) ?_
          refine f_stepP rfl rfl rfl (o_move rfl) ?_
          refine f_stepP rfl rfl rfl (o_field fa44_1 rfl) ?_
          refine f_stepP rfl rfl rfl (o_load Try.isAgg3 rfl (rdA rfl)) ?_
          refine f_stepP rfl rfl rfl (o_field fa44_0 rfl) ?_
          refine f_stepP rfl rfl rfl (o_load Try.isAgg3 rfl (rdA rfl)) ?_
          refine f_stepP rfl rfl rfl (o_field fa44_2 rfl) ?_
          refine f_stepP rfl rfl rfl (o_load Try.isAgg42 rfl (rdA rfl)) ?_
          refine f_stepP rfl rfl rfl (o_build (cs := arcCs (revArc l[k])) st44 rfl rfl) ?_
          refine f_stepP rfl rfl rfl (o_idx sl22 rfl rfl (k * 3) ⟨by omega, by omega, by first | omega | (simp; done) | (simp; omega)⟩) ?_
          refine f_step0 rfl rfl (o_storeA Try.sizeOf44 rfl rfl rfl rfl (by rw [flat_length arcCs arcCs_len, arcCs_len]; omega) ((o.set k (revArc l[k])).flatMap arcCs) (setMany_flat0 arcCs_len o k _ (by omega)) ?_)
          refine f_done ?_
          refine f_bn ?_
          refine f_tn (kh11 _ _ ?_)
          clear kh11
          refine f_region ?_
          refine f_stepP rfl rfl rfl (o_add rfl rfl _ (wrap_i64 (by omega))) ?_
          refine f_stepP rfl rfl rfl (o_move rfl) ?_
          refine f_done ?_
          refine f_tn (f_again (k + 1, o.set k (revArc l[k])) (by first | omega | (dsimp only; omega) | (simp; omega)) ⟨by omega, by simp [hol], fun j a b hj => by rw [List.getElem_set]; split; (rename_i e; subst e; rfl); exact hpre j (by simpa using a) b (by omega)⟩ ?_ ?_ ?_)
          · exact (by repeat (first | exact trivial | refine ⟨rfl, ?_⟩))
          · exact (by repeat (first | exact trivial | refine ⟨rfl, ?_⟩))
          · repeat (first | exact Sub.nil | refine Sub.pick ?_ | refine Sub.castO rfl ?_ | refine Sub.skip ?_)
        · skip
          refine f_exit ?_
          refine f_te ?_
          clear kh10
          refine f_te ?_
          refine f_be ?_
          refine f_tn (kh7 _ _ ?_)
          clear kh7
          refine f_seq fun K13 kh13 => ?_
          refine f_region ?_
          refine f_stepP rfl rfl rfl (o_loadA (vs := [_, _]) Try.isAgg24 Try.sizeOf24 rfl rfl ⟨(rdA rfl), (rdA rfl), trivial⟩) ?_
          refine f_step0 rfl rfl (o_storeA Try.sizeOf24 rfl rfl rfl rfl (by first | exact Nat.le_of_ble_eq_true rfl | (simp; done) | (simp; omega)) _ rfl ?_)
          refine f_stepP rfl rfl rfl (o_assign rfl) ?_
          refine f_done ?_
          refine f_tn (kh13 _ _ ?_)
          clear kh13
          refine f_ret ?_
          obtain rfl := made_done hol (by omega) hpre
          exact f_finR2 [[(b23, blk ((l.map revArc).flatMap arcCs) 44)]] Try.results26 (rvA (vs := [.int .i64 N, .slice (some ⟨b23, 0, none⟩) l.length l.length]) Try.isAgg24 Try.sizeOf24 rfl rfl ⟨(rdA rfl), (rdA rfl), trivial⟩) (rv rfl) (by repeat (first | exact Sub.nil | refine Sub.pick ?_)) (by rw [RevΦ, if_pos hc0]; exact ⟨b23, by rw [List.length_map], rfl⟩)

end Go.Proofs.Ytegkdbicomedjaa
