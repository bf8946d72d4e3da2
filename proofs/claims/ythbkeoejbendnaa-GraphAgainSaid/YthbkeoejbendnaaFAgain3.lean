/- flyoverlaw03.GraphAgain answers true. -/
import Derived.Test.YthbkeoejbendnaaFChange
import Derived.Test.YthbkeoejbendnaaFWorks3
namespace Go.Proofs.Ythbkeoejbendnaa
open Go Go.RowKit Fly
set_option linter.unusedVariables false
set_option linter.unusedSimpArgs false


theorem chgs_one (l : List Chg) : (l.flatMap chgCs).all (·.oneCell') = true := by
  induction l with
  | nil => rfl
  | cons x l ih => rw [List.flatMap_cons, List.all_append, ih]; rfl
theorem rds_ro {S : Nat → Prop} {w0 : World} {segs : List Seg} {A : Option Addr} {cs : List Value} (h : Ro S w0 A cs) : cs ≠ [] → ∃ b off, A = some ⟨b, off, none⟩ ∧ Rds S w0 segs b off cs := fun hne => by
  obtain ⟨b, off, e, hS, hc⟩ := h hne
  exact ⟨b, off, e, Seen.rds fun _ => ⟨hS, hc⟩⟩

set_option maxRecDepth 100000 in
set_option maxHeartbeats 4000000 in
theorem GraphAgain_spec (N : Int) (A : Option Addr) (l : List Arc) (cap : Nat) (B1 B2 : Option Addr) (a b : List Chg) (c1 c2 : Nat) (w : World) (hr : Ro (Fr w []) w A (l.flatMap arcCs)) (hA : A = none → l.length = 0) (hka : Ro (Fr w []) w B1 (a.flatMap chgCs)) (hkb : Ro (Fr w []) w B2 (b.flatMap chgCs))
    (hl : l.length ≤ 9223372036854775807) (hN : I64 N) (hok : ∀ x ∈ l, ArcOk x) (hoa : ∀ x ∈ a, ChgOk x) (hab : a.length + b.length ≤ 9223372036854775807) :
    Meets Try.prog 7 [.agg #[.int .i64 N, .slice A l.length cap], .slice B1 a.length c1, .slice B2 b.length c2] w [] (fun u m => u = .bool true ∧ m = []) := by
  refine f_enter Try.func7 rfl Try.ntmps7 rfl Owns.nil ?_
  refine f_seq fun K1 kh1 => ?_
  refine f_region ?_
  refine f_step rfl rfl rfl (o_box rfl rfl fun b3 => ?_)
  refine f_stepP rfl rfl rfl (o_assign rfl) ?_
  refine f_done ?_
  refine f_tn (kh1 _ _ ?_)
  clear kh1
  refine f_seq fun K2 kh2 => ?_
  refine f_seq fun K3 kh3 => ?_
  refine f_region ?_
  refine f_step rfl rfl rfl (o_call Try.call9 rfl (fun w_ hp_ => works_spec w_) ?_)
  rintro _ _ ⟨rfl, rfl⟩
  dsimp only [List.cons_append, List.nil_append]
  refine f_stepP rfl rfl rfl (o_not rfl) ?_
  refine f_done ?_
  refine f_tn (kh3 _ _ ?_)
  clear kh3
  refine f_condF rfl ?_
  refine f_skip ?_
  refine f_tn (kh2 _ _ ?_)
  clear kh2
  refine f_seq fun K4 kh4 => ?_
  refine f_seq fun K5 kh5 => ?_
  refine f_region ?_
  refine f_stepP rfl rfl rfl (o_move rfl) ?_
  refine f_stepP rfl rfl rfl (o_len sl45 rfl) ?_
  refine f_stepP rfl rfl rfl (o_move rfl) ?_
  refine f_stepP rfl rfl rfl (o_len sl45 rfl) ?_
  refine f_stepP rfl rfl rfl (o_add rfl rfl _ (wrap_i64 (by omega))) ?_
  refine f_stepP rfl rfl rfl (o_gtr rfl rfl) ?_
  refine f_done ?_
  refine f_tn (kh5 _ _ ?_)
  clear kh5
  refine f_cond rfl (fun c25 => ?_) (fun c25 => ?_)
  · skip
    refine f_seq fun K6 kh6 => ?_
    refine f_region ?_
    refine f_stepP rfl rfl rfl (o_assign rfl) ?_
    refine f_done ?_
    refine f_tn (kh6 _ _ ?_)
    clear kh6
    refine f_ret ?_
    refine f_tr ?_
    exact f_fin1 [] Try.results7 rfl Sub.nil ⟨rfl, rfl⟩
  · skip
    have hle : a.length + b.length ≤ 16384 := by omega
    refine f_skip ?_
    refine f_tn (kh4 _ _ ?_)
    clear kh4
    refine f_seq fun K7 kh7 => ?_
    refine f_region ?_
    refine f_stepP rfl rfl rfl (o_loadA (vs := [_, _]) Try.isAgg24 Try.sizeOf24 rfl rfl ⟨(rdA rfl), (rdA rfl), trivial⟩) ?_
    refine f_stepP rfl rfl rfl (o_move rfl) ?_
    refine f_step rfl rfl rfl (o_call Try.call18 rfl (fun w_ hp_ => Change_spec N A l cap B1 a c1 w_ (hr.up0 hp_) hA (hka.up0 hp_) hl hN hok) ?_)
    rintro _ _ ⟨s7, m7, rfl, rfl, o7⟩
    obtain ⟨A7, cap7, rfl, hc7⟩ := o7.val
    dsimp only [List.cons_append, List.nil_append]
    refine f_stepP rfl rfl rfl (o_move rfl) ?_
    refine f_stepP rfl rfl rfl (o_extract rfl rfl) ?_
    refine f_stepP rfl rfl rfl (o_extract rfl rfl) ?_
    refine f_step rfl rfl rfl (o_alloc Try.zeroValue24 rfl fun b7 => ?_)
    refine f_step0 rfl rfl (o_storeA Try.sizeOf24 rfl rfl rfl rfl (by first | exact Nat.le_of_ble_eq_true rfl | (simp; done) | (simp; omega)) _ rfl ?_)
    refine f_stepP rfl rfl rfl (o_assign rfl) ?_
    refine f_done ?_
    refine f_tn (kh7 _ _ ?_)
    clear kh7
    refine f_seq fun K8 kh8 => ?_
    refine f_seq fun K9 kh9 => ?_
    refine f_region ?_
    refine f_stepP rfl rfl rfl (o_move rfl) ?_
    refine f_stepP rfl rfl rfl (o_neq rfl rfl) ?_
    refine f_done ?_
    refine f_tn (kh9 _ _ ?_)
    clear kh9
    refine f_cond rfl (fun c33 => ?_) (fun c33 => ?_)
    · skip
      have hbad := change_bad c33
      refine f_seq fun K10 kh10 => ?_
      refine f_region ?_
      refine f_stepP rfl rfl rfl (o_field fa24_1 rfl) ?_
      refine f_stepP rfl rfl rfl (o_load Try.isAgg22 rfl (rdA rfl)) ?_
      refine f_stepP rfl rfl rfl (o_len sl22 rfl) ?_
      refine f_stepP rfl rfl rfl (o_eql rfl rfl) ?_
      refine f_stepP rfl rfl rfl (o_assign rfl) ?_
      refine f_done ?_
      refine f_tn (kh10 _ _ ?_)
      clear kh10
      refine f_ret ?_
      refine f_tr ?_
      exact f_fin1 [] Try.results7 rfl Sub.nil ⟨by rw [hbad]; rfl, rfl⟩
    · skip
      have hz : (changeR N l a).2.2 = 0 := by simpa using c33
      obtain ⟨hg0, hal, hany, hce⟩ := change_ok hz
      obtain ⟨hN1, hN2, hlen, hgood⟩ := gcheck_zero hg0
      have hcl := chg_len a l
      rw [hce] at o7 ⊢
      refine f_skip ?_
      refine f_tn (kh8 _ _ ?_)
      clear kh8
      refine f_seq fun K11 kh11 => ?_
      refine f_region ?_
      refine f_stepP rfl rfl rfl (o_loadA (vs := [_, _]) Try.isAgg24 Try.sizeOf24 rfl rfl ⟨(rdA rfl), (rdA rfl), trivial⟩) ?_
      refine f_stepP rfl rfl rfl (o_move rfl) ?_
      refine f_step rfl rfl rfl (o_call Try.call18 rfl (fun w_ hp_ => Change_spec N A7 (chg l a) cap7 B2 b c2 w_ (seen_ro (o7.seen hp_)) (own_none o7) (hkb.up0 hp_) (by rw [chg_len]; omega) hN (chg_ok hoa hok)) ?_)
      rintro _ _ ⟨s9, m9, rfl, rfl, o9⟩
      rw [change_two hz hle] at o9 ⊢
      obtain ⟨A9, cap9, rfl, hc9⟩ := o9.val
      dsimp only [List.cons_append, List.nil_append]
      refine f_stepP rfl rfl rfl (o_move rfl) ?_
      refine f_stepP rfl rfl rfl (o_extract rfl rfl) ?_
      refine f_stepP rfl rfl rfl (o_extract rfl rfl) ?_
      refine f_step rfl rfl rfl (o_alloc Try.zeroValue24 rfl fun b9 => ?_)
      refine f_step0 rfl rfl (o_storeA Try.sizeOf24 rfl rfl rfl rfl (by first | exact Nat.le_of_ble_eq_true rfl | (simp; done) | (simp; omega)) _ rfl ?_)
      refine f_stepP rfl rfl rfl (o_assign rfl) ?_
      refine f_done ?_
      refine f_tn (kh11 _ _ ?_)
      clear kh11
      refine f_meet (α := Nat × Value × Seg) [3, 7, 9, 10] (fun ⟨b11, s11, m11⟩ => [(11, .pointer (some ⟨b11, 0, none⟩)), (12, .int .i64 (changeR N l (a ++ b)).2.2)]) (fun ⟨b11, s11, m11⟩ => [[(b11, blk [.int .i64 (changeR N l (a ++ b)).1, s11] 24)], m11, [(b9, blk [.int .i64 (changeR N l (a ++ b)).1, .slice A9 (changeR N l (a ++ b)).2.1.length cap9] 24)], m9, [(b7, blk [.int .i64 N, .slice A7 (chg l a).length cap7] 24)], m7, [(b3, blk [.int .i64 N, .slice A l.length cap] 24)]]) (fun ⟨b11, s11, m11⟩ => Own 34 3 s11 (changeR N l (a ++ b)).2.1.length ((changeR N l (a ++ b)).2.1.flatMap arcCs) m11) ?_ ?_
      · intro K12 kh12
        refine f_regionH [[(b3, blk [.int .i64 N, .slice A l.length cap] 24)]] rfl ?_
        refine f_take 0 rfl (by decide +kernel) rfl rfl rfl (by repeat (first | exact Sub.nil | refine Sub.pick ?_ | refine Sub.castO rfl ?_ | refine Sub.skip ?_)) (o_loadA (vs := [_, _]) Try.isAgg24 Try.sizeOf24 rfl rfl ⟨(rdA rfl), (rdA rfl), trivial⟩) ?_
        refine f_take 2 rfl (by decide +kernel) rfl rfl rfl (by repeat (first | exact Sub.nil | refine Sub.pick ?_ | refine Sub.castO rfl ?_ | refine Sub.skip ?_)) (o_move rfl) ?_
        refine f_take 4 rfl (by decide +kernel) rfl rfl rfl (by repeat (first | exact Sub.nil | refine Sub.pick ?_ | refine Sub.castO rfl ?_ | refine Sub.skip ?_)) (o_move rfl) ?_
        refine f_two 1 10 rfl rfl (by decide +kernel) rfl rfl rfl rfl rfl rfl ?_ ?_
        · skip
          refine (o_slice0 el45 fun b46 => ⟨(by repeat (first | exact Sub.nil | refine Sub.pick ?_ | refine Sub.castO rfl ?_ | refine Sub.skip ?_)), ?_⟩)
          refine f_two 3 10 rfl rfl (by decide +kernel) rfl rfl rfl rfl rfl rfl ?_ ?_
          · skip
            refine (o_appendQ el45 rfl rfl (Own.mk (b := b46) (cs := []) (len := 0) rfl (by omega)) (ys := a.flatMap chgCs) (rds_ro hka) (flat_length chgCs chgCs_len a) (chgs_one a) (by omega) (by omega) fun v48 m48 o48 => ⟨(by repeat (first | exact Sub.nil | refine Sub.pick ?_ | refine Sub.castO rfl ?_ | refine Sub.skip ?_)), ?_⟩)
            refine f_two 5 10 rfl rfl (by decide +kernel) rfl rfl rfl rfl rfl rfl ?_ ?_
            · skip
              refine (o_appendQ el45 rfl rfl o48 (ys := b.flatMap chgCs) (rds_ro hkb) (flat_length chgCs chgCs_len b) (chgs_one b) (by omega) (by omega) fun v50 m50 o50 => ⟨(by repeat (first | exact Sub.nil | refine Sub.pick ?_ | refine Sub.castO rfl ?_ | refine Sub.skip ?_)), ?_⟩)
              obtain ⟨A50, cap50, rfl, _⟩ := o50.val
              rw [List.nil_append, ← List.flatMap_append, show 0 + a.length + b.length = (a ++ b).length from by simp] at o50
              rw [show 0 + a.length + b.length = (a ++ b).length from by simp]
              refine f_two 6 10 rfl rfl (by decide +kernel) rfl rfl rfl rfl rfl rfl ?_ ?_
              · skip
                refine (o_call Try.call18 rfl (fun w_ hp_ => Change_spec N A l cap A50 (a ++ b) cap50 w_ (hr.up0 hp_) hA (seen_ro (o50.seen hp_)) hl hN hok) ?_)
                rintro _ _ ⟨s11, m11, rfl, rfl, o11⟩
                obtain ⟨A11, cap11, rfl, hc11⟩ := o11.val
                dsimp only [List.cons_append, List.nil_append]
                refine ⟨(by repeat (first | exact Sub.nil | refine Sub.pick ?_ | refine Sub.castO rfl ?_ | refine Sub.skip ?_)), ?_⟩
                refine f_take 7 rfl (by decide +kernel) rfl rfl rfl (by repeat (first | exact Sub.nil | refine Sub.pick ?_ | refine Sub.castO rfl ?_ | refine Sub.skip ?_)) (o_move rfl) ?_
                refine f_take 8 rfl (by decide +kernel) rfl rfl rfl (by repeat (first | exact Sub.nil | refine Sub.pick ?_ | refine Sub.castO rfl ?_ | refine Sub.skip ?_)) (o_extract rfl rfl) ?_
                refine f_take 9 rfl (by decide +kernel) rfl rfl rfl (by repeat (first | exact Sub.nil | refine Sub.pick ?_ | refine Sub.castO rfl ?_ | refine Sub.skip ?_)) (o_extract rfl rfl) ?_
                refine f_only 10 rfl (by decide +kernel) rfl rfl rfl (o_alloc Try.zeroValue24 rfl fun b11 => ⟨(by repeat (first | exact Sub.nil | refine Sub.pick ?_ | refine Sub.castO rfl ?_ | refine Sub.skip ?_)), ?_⟩)
                refine f_only0 11 rfl (by decide +kernel) rfl rfl (o_storeA Try.sizeOf24 rfl rfl rfl rfl (by first | exact Nat.le_of_ble_eq_true rfl | (simp; done) | (simp; omega)) _ rfl ⟨(by repeat (first | exact Sub.nil | refine Sub.pick ?_ | refine Sub.castO rfl ?_ | refine Sub.skip ?_)), ?_⟩)
                refine f_only 12 rfl (by decide +kernel) rfl rfl rfl ((o_assign rfl).does ⟨(by repeat (first | exact Sub.nil | refine Sub.pick ?_ | refine Sub.castO rfl ?_ | refine Sub.skip ?_)), ?_⟩)
                refine f_over (by decide +kernel) ?_
                refine f_tn (kh12 _ _ (b11, .slice A11 (changeR N l (a ++ b)).2.1.length cap11, m11) o11 ?_ ?_ ?_)
                · exact (by repeat (first | exact trivial | refine ⟨rfl, ?_⟩))
                · exact (by repeat (first | exact trivial | refine ⟨rfl, ?_⟩))
                · repeat (first | exact Sub.nil | refine Sub.pick ?_ | refine Sub.castO rfl ?_ | refine Sub.skip ?_)
              · skip
                refine (o_alloc Try.zeroValue24 rfl fun b11 => ⟨(by repeat (first | exact Sub.nil | refine Sub.pick ?_ | refine Sub.castO rfl ?_ | refine Sub.skip ?_)), ?_⟩)
                refine f_only 6 rfl (by decide +kernel) rfl rfl rfl (o_call Try.call18 rfl (fun w_ hp_ => Change_spec N A l cap A50 (a ++ b) cap50 w_ (hr.up0 hp_) hA (seen_ro (o50.seen hp_)) hl hN hok) ?_)
                rintro _ _ ⟨s11, m11, rfl, rfl, o11⟩
                obtain ⟨A11, cap11, rfl, hc11⟩ := o11.val
                dsimp only [List.cons_append, List.nil_append]
                refine ⟨(by repeat (first | exact Sub.nil | refine Sub.pick ?_ | refine Sub.castO rfl ?_ | refine Sub.skip ?_)), ?_⟩
                refine f_take 7 rfl (by decide +kernel) rfl rfl rfl (by repeat (first | exact Sub.nil | refine Sub.pick ?_ | refine Sub.castO rfl ?_ | refine Sub.skip ?_)) (o_move rfl) ?_
                refine f_take 8 rfl (by decide +kernel) rfl rfl rfl (by repeat (first | exact Sub.nil | refine Sub.pick ?_ | refine Sub.castO rfl ?_ | refine Sub.skip ?_)) (o_extract rfl rfl) ?_
                refine f_take 9 rfl (by decide +kernel) rfl rfl rfl (by repeat (first | exact Sub.nil | refine Sub.pick ?_ | refine Sub.castO rfl ?_ | refine Sub.skip ?_)) (o_extract rfl rfl) ?_
                refine f_only0 11 rfl (by decide +kernel) rfl rfl (o_storeA Try.sizeOf24 rfl rfl rfl rfl (by first | exact Nat.le_of_ble_eq_true rfl | (simp; done) | (simp; omega)) _ rfl ⟨(by repeat (first | exact Sub.nil | refine Sub.pick ?_ | refine Sub.castO rfl ?_ | refine Sub.skip ?_)), ?_⟩)
                refine f_only 12 rfl (by decide +kernel) rfl rfl rfl ((o_assign rfl).does ⟨(by repeat (first | exact Sub.nil | refine Sub.pick ?_ | refine Sub.castO rfl ?_ | refine Sub.skip ?_)), ?_⟩)
                refine f_over (by decide +kernel) ?_
                refine f_tn (kh12 _ _ (b11, .slice A11 (changeR N l (a ++ b)).2.1.length cap11, m11) o11 ?_ ?_ ?_)
                · exact (by repeat (first | exact trivial | refine ⟨rfl, ?_⟩))
                · exact (by repeat (first | exact trivial | refine ⟨rfl, ?_⟩))
                · repeat (first | exact Sub.nil | refine Sub.pick ?_ | refine Sub.castO rfl ?_ | refine Sub.skip ?_)
            · skip
              refine (o_alloc Try.zeroValue24 rfl fun b11 => ⟨(by repeat (first | exact Sub.nil | refine Sub.pick ?_ | refine Sub.castO rfl ?_ | refine Sub.skip ?_)), ?_⟩)
              refine f_only 5 rfl (by decide +kernel) rfl rfl rfl (o_appendQ el45 rfl rfl o48 (ys := b.flatMap chgCs) (rds_ro hkb) (flat_length chgCs chgCs_len b) (chgs_one b) (by omega) (by omega) fun v50 m50 o50 => ⟨(by repeat (first | exact Sub.nil | refine Sub.pick ?_ | refine Sub.castO rfl ?_ | refine Sub.skip ?_)), ?_⟩)
              obtain ⟨A50, cap50, rfl, _⟩ := o50.val
              rw [List.nil_append, ← List.flatMap_append, show 0 + a.length + b.length = (a ++ b).length from by simp] at o50
              rw [show 0 + a.length + b.length = (a ++ b).length from by simp]
              refine f_only 6 rfl (by decide +kernel) rfl rfl rfl (o_call Try.call18 rfl (fun w_ hp_ => Change_spec N A l cap A50 (a ++ b) cap50 w_ (hr.up0 hp_) hA (seen_ro (o50.seen hp_)) hl hN hok) ?_)
              rintro _ _ ⟨s11, m11, rfl, rfl, o11⟩
              obtain ⟨A11, cap11, rfl, hc11⟩ := o11.val
              dsimp only [List.cons_append, List.nil_append]
              refine ⟨(by repeat (first | exact Sub.nil | refine Sub.pick ?_ | refine Sub.castO rfl ?_ | refine Sub.skip ?_)), ?_⟩
              refine f_take 7 rfl (by decide +kernel) rfl rfl rfl (by repeat (first | exact Sub.nil | refine Sub.pick ?_ | refine Sub.castO rfl ?_ | refine Sub.skip ?_)) (o_move rfl) ?_
              refine f_take 8 rfl (by decide +kernel) rfl rfl rfl (by repeat (first | exact Sub.nil | refine Sub.pick ?_ | refine Sub.castO rfl ?_ | refine Sub.skip ?_)) (o_extract rfl rfl) ?_
              refine f_take 9 rfl (by decide +kernel) rfl rfl rfl (by repeat (first | exact Sub.nil | refine Sub.pick ?_ | refine Sub.castO rfl ?_ | refine Sub.skip ?_)) (o_extract rfl rfl) ?_
              refine f_only0 11 rfl (by decide +kernel) rfl rfl (o_storeA Try.sizeOf24 rfl rfl rfl rfl (by first | exact Nat.le_of_ble_eq_true rfl | (simp; done) | (simp; omega)) _ rfl ⟨(by repeat (first | exact Sub.nil | refine Sub.pick ?_ | refine Sub.castO rfl ?_ | refine Sub.skip ?_)), ?_⟩)
              refine f_only 12 rfl (by decide +kernel) rfl rfl rfl ((o_assign rfl).does ⟨(by repeat (first | exact Sub.nil | refine Sub.pick ?_ | refine Sub.castO rfl ?_ | refine Sub.skip ?_)), ?_⟩)
              refine f_over (by decide +kernel) ?_
              refine f_tn (kh12 _ _ (b11, .slice A11 (changeR N l (a ++ b)).2.1.length cap11, m11) o11 ?_ ?_ ?_)
              · exact (by repeat (first | exact trivial | refine ⟨rfl, ?_⟩))
              · exact (by repeat (first | exact trivial | refine ⟨rfl, ?_⟩))
              · repeat (first | exact Sub.nil | refine Sub.pick ?_ | refine Sub.castO rfl ?_ | refine Sub.skip ?_)
          · skip
            refine (o_alloc Try.zeroValue24 rfl fun b11 => ⟨(by repeat (first | exact Sub.nil | refine Sub.pick ?_ | refine Sub.castO rfl ?_ | refine Sub.skip ?_)), ?_⟩)
            refine f_only 3 rfl (by decide +kernel) rfl rfl rfl (o_appendQ el45 rfl rfl (Own.mk (b := b46) (cs := []) (len := 0) rfl (by omega)) (ys := a.flatMap chgCs) (rds_ro hka) (flat_length chgCs chgCs_len a) (chgs_one a) (by omega) (by omega) fun v48 m48 o48 => ⟨(by repeat (first | exact Sub.nil | refine Sub.pick ?_ | refine Sub.castO rfl ?_ | refine Sub.skip ?_)), ?_⟩)
            refine f_only 5 rfl (by decide +kernel) rfl rfl rfl (o_appendQ el45 rfl rfl o48 (ys := b.flatMap chgCs) (rds_ro hkb) (flat_length chgCs chgCs_len b) (chgs_one b) (by omega) (by omega) fun v50 m50 o50 => ⟨(by repeat (first | exact Sub.nil | refine Sub.pick ?_ | refine Sub.castO rfl ?_ | refine Sub.skip ?_)), ?_⟩)
            obtain ⟨A50, cap50, rfl, _⟩ := o50.val
            rw [List.nil_append, ← List.flatMap_append, show 0 + a.length + b.length = (a ++ b).length from by simp] at o50
            rw [show 0 + a.length + b.length = (a ++ b).length from by simp]
            refine f_only 6 rfl (by decide +kernel) rfl rfl rfl (o_call Try.call18 rfl (fun w_ hp_ => Change_spec N A l cap A50 (a ++ b) cap50 w_ (hr.up0 hp_) hA (seen_ro (o50.seen hp_)) hl hN hok) ?_)
            rintro _ _ ⟨s11, m11, rfl, rfl, o11⟩
            obtain ⟨A11, cap11, rfl, hc11⟩ := o11.val
            dsimp only [List.cons_append, List.nil_append]
            refine ⟨(by repeat (first | exact Sub.nil | refine Sub.pick ?_ | refine Sub.castO rfl ?_ | refine Sub.skip ?_)), ?_⟩
            refine f_take 7 rfl (by decide +kernel) rfl rfl rfl (by repeat (first | exact Sub.nil | refine Sub.pick ?_ | refine Sub.castO rfl ?_ | refine Sub.skip ?_)) (o_move rfl) ?_
            refine f_take 8 rfl (by decide +kernel) rfl rfl rfl (by repeat (first | exact Sub.nil | refine Sub.pick ?_ | refine Sub.castO rfl ?_ | refine Sub.skip ?_)) (o_extract rfl rfl) ?_
            refine f_take 9 rfl (by decide +kernel) rfl rfl rfl (by repeat (first | exact Sub.nil | refine Sub.pick ?_ | refine Sub.castO rfl ?_ | refine Sub.skip ?_)) (o_extract rfl rfl) ?_
            refine f_only0 11 rfl (by decide +kernel) rfl rfl (o_storeA Try.sizeOf24 rfl rfl rfl rfl (by first | exact Nat.le_of_ble_eq_true rfl | (simp; done) | (simp; omega)) _ rfl ⟨(by repeat (first | exact Sub.nil | refine Sub.pick ?_ | refine Sub.castO rfl ?_ | refine Sub.skip ?_)), ?_⟩)
            refine f_only 12 rfl (by decide +kernel) rfl rfl rfl ((o_assign rfl).does ⟨(by repeat (first | exact Sub.nil | refine Sub.pick ?_ | refine Sub.castO rfl ?_ | refine Sub.skip ?_)), ?_⟩)
            refine f_over (by decide +kernel) ?_
            refine f_tn (kh12 _ _ (b11, .slice A11 (changeR N l (a ++ b)).2.1.length cap11, m11) o11 ?_ ?_ ?_)
            · exact (by repeat (first | exact trivial | refine ⟨rfl, ?_⟩))
            · exact (by repeat (first | exact trivial | refine ⟨rfl, ?_⟩))
            · repeat (first | exact Sub.nil | refine Sub.pick ?_ | refine Sub.castO rfl ?_ | refine Sub.skip ?_)
        · skip
          refine (o_alloc Try.zeroValue24 rfl fun b11 => ⟨(by repeat (first | exact Sub.nil | refine Sub.pick ?_ | refine Sub.castO rfl ?_ | refine Sub.skip ?_)), ?_⟩)
          refine f_only 1 rfl (by decide +kernel) rfl rfl rfl (o_slice0 el45 fun b46 => ⟨(by repeat (first | exact Sub.nil | refine Sub.pick ?_ | refine Sub.castO rfl ?_ | refine Sub.skip ?_)), ?_⟩)
          refine f_only 3 rfl (by decide +kernel) rfl rfl rfl (o_appendQ el45 rfl rfl (Own.mk (b := b46) (cs := []) (len := 0) rfl (by omega)) (ys := a.flatMap chgCs) (rds_ro hka) (flat_length chgCs chgCs_len a) (chgs_one a) (by omega) (by omega) fun v48 m48 o48 => ⟨(by repeat (first | exact Sub.nil | refine Sub.pick ?_ | refine Sub.castO rfl ?_ | refine Sub.skip ?_)), ?_⟩)
          refine f_only 5 rfl (by decide +kernel) rfl rfl rfl (o_appendQ el45 rfl rfl o48 (ys := b.flatMap chgCs) (rds_ro hkb) (flat_length chgCs chgCs_len b) (chgs_one b) (by omega) (by omega) fun v50 m50 o50 => ⟨(by repeat (first | exact Sub.nil | refine Sub.pick ?_ | refine Sub.castO rfl ?_ | refine Sub.skip ?_)), ?_⟩)
          obtain ⟨A50, cap50, rfl, _⟩ := o50.val
          rw [List.nil_append, ← List.flatMap_append, show 0 + a.length + b.length = (a ++ b).length from by simp] at o50
          rw [show 0 + a.length + b.length = (a ++ b).length from by simp]
          refine f_only 6 rfl (by decide +kernel) rfl rfl rfl (o_call Try.call18 rfl (fun w_ hp_ => Change_spec N A l cap A50 (a ++ b) cap50 w_ (hr.up0 hp_) hA (seen_ro (o50.seen hp_)) hl hN hok) ?_)
          rintro _ _ ⟨s11, m11, rfl, rfl, o11⟩
          obtain ⟨A11, cap11, rfl, hc11⟩ := o11.val
          dsimp only [List.cons_append, List.nil_append]
          refine ⟨(by repeat (first | exact Sub.nil | refine Sub.pick ?_ | refine Sub.castO rfl ?_ | refine Sub.skip ?_)), ?_⟩
          refine f_take 7 rfl (by decide +kernel) rfl rfl rfl (by repeat (first | exact Sub.nil | refine Sub.pick ?_ | refine Sub.castO rfl ?_ | refine Sub.skip ?_)) (o_move rfl) ?_
          refine f_take 8 rfl (by decide +kernel) rfl rfl rfl (by repeat (first | exact Sub.nil | refine Sub.pick ?_ | refine Sub.castO rfl ?_ | refine Sub.skip ?_)) (o_extract rfl rfl) ?_
          refine f_take 9 rfl (by decide +kernel) rfl rfl rfl (by repeat (first | exact Sub.nil | refine Sub.pick ?_ | refine Sub.castO rfl ?_ | refine Sub.skip ?_)) (o_extract rfl rfl) ?_
          refine f_only0 11 rfl (by decide +kernel) rfl rfl (o_storeA Try.sizeOf24 rfl rfl rfl rfl (by first | exact Nat.le_of_ble_eq_true rfl | (simp; done) | (simp; omega)) _ rfl ⟨(by repeat (first | exact Sub.nil | refine Sub.pick ?_ | refine Sub.castO rfl ?_ | refine Sub.skip ?_)), ?_⟩)
          refine f_only 12 rfl (by decide +kernel) rfl rfl rfl ((o_assign rfl).does ⟨(by repeat (first | exact Sub.nil | refine Sub.pick ?_ | refine Sub.castO rfl ?_ | refine Sub.skip ?_)), ?_⟩)
          refine f_over (by decide +kernel) ?_
          refine f_tn (kh12 _ _ (b11, .slice A11 (changeR N l (a ++ b)).2.1.length cap11, m11) o11 ?_ ?_ ?_)
          · exact (by repeat (first | exact trivial | refine ⟨rfl, ?_⟩))
          · exact (by repeat (first | exact trivial | refine ⟨rfl, ?_⟩))
          · repeat (first | exact Sub.nil | refine Sub.pick ?_ | refine Sub.castO rfl ?_ | refine Sub.skip ?_)
      · rintro ⟨b11, s11, m11⟩ o11
        obtain ⟨A11, cap11, rfl, hc11⟩ := o11.val
        refine f_seq fun K13 kh13 => ?_
        refine f_seq fun K14 kh14 => ?_
        refine f_region ?_
        refine f_stepP rfl rfl rfl (o_move rfl) ?_
        refine f_stepP rfl rfl rfl (o_move rfl) ?_
        refine f_stepP rfl rfl rfl (o_neq rfl rfl) ?_
        refine f_stepP rfl rfl rfl (o_move rfl) ?_
        refine f_falseL 57 rfl (by simp) ?_
        refine f_stepPY rfl rfl rfl rfl rfl (o_loadA (vs := [_, _]) Try.isAgg24 Try.sizeOf24 rfl rfl ⟨(rdA rfl), (rdA rfl), trivial⟩) ?_
        refine f_stepPY rfl rfl rfl rfl rfl (o_loadA (vs := [_, _]) Try.isAgg24 Try.sizeOf24 rfl rfl ⟨(rdA rfl), (rdA rfl), trivial⟩) ?_
        refine f_stepY rfl rfl rfl rfl rfl (o_call Try.call15 rfl (fun w_ hp_ => SameGraph_spec _ _ A9 A11 _ _ cap9 cap11 w_ (seen_ro (o9.seen hp_)) (seen_ro (o11.seen hp_)) (by omega)) ?_)
        rintro _ _ ⟨rfl, rfl⟩
        rw [decide_eq_true (show _ ∧ _ from ⟨rfl, rfl⟩)]
        dsimp only [List.cons_append, List.nil_append]
        refine f_stepPY rfl rfl rfl rfl rfl (o_not rfl) ?_
        refine f_stepP rfl rfl rfl (o_pickF rfl rfl) ?_
        refine f_done ?_
        refine f_tn (kh14 _ _ ?_)
        clear kh14
        refine f_condF rfl ?_
        refine f_skip ?_
        refine f_tn (kh13 _ _ ?_)
        clear kh13
        refine f_seq fun K15 kh15 => ?_
        refine f_region ?_
        refine f_stepP rfl rfl rfl (o_assign rfl) ?_
        refine f_done ?_
        refine f_tn (kh15 _ _ ?_)
        clear kh15
        refine f_seq fun K16 kh16 => ?_
        refine f_seq fun K17 kh17 => ?_
        refine f_region ?_
        refine f_stepP rfl rfl rfl (o_field fa24_1 rfl) ?_
        refine f_stepP rfl rfl rfl (o_load Try.isAgg22 rfl (rdA rfl)) ?_
        refine f_stepP rfl rfl rfl (o_len sl22 rfl) ?_
        refine f_stepP rfl rfl rfl (o_move rfl) ?_
        refine f_done ?_
        refine f_tn (kh17 _ _ ?_)
        clear kh17
        refine f_block ?_
        refine f_loop (α := Nat × Value × Seg) [3, 7, 64, 65] (fun ⟨k, v13, m13⟩ => [(66, .int .i64 (k : Int)), (13, v13)]) (fun ⟨k, v13, m13⟩ => [[(b3, blk [.int .i64 N, .slice A l.length cap] 24)], [(b7, blk [.int .i64 N, .slice A7 (chg l a).length cap7] 24)], m7, m13]) (fun ⟨k, v13, m13⟩ => k ≤ l.length ∧ Own 32 1 v13 (l.take k).length ((l.take k).map (.int .u32 ·.wt)) m13) (fun ⟨k, v13, m13⟩ => l.length - k) (0, .slice none 0 0, []) ?_ ?_ ?_ ?_
        · exact (by repeat (first | exact trivial | refine ⟨rfl, ?_⟩))
        · repeat (first | exact Sub.nil | refine Sub.pick ?_ | refine Sub.castO rfl ?_ | refine Sub.skip ?_)
        · exact ⟨by omega, Own.nil _ _⟩
        · rintro ⟨k, v13, m13⟩ ⟨hk0, o13⟩
          obtain ⟨A13, cap13, rfl, hc13⟩ := o13.val
          have htk : (l.take k).length = k := by rw [List.length_take]; omega
          refine f_seq fun K18 kh18 => ?_
          refine f_region ?_
          refine f_stepP rfl rfl rfl (o_lss rfl rfl) ?_
          refine f_done ?_
          refine f_tn (kh18 _ _ ?_)
          clear kh18
          refine f_seq fun K19 kh19 => ?_
          refine f_cond rfl (fun c67 => ?_) (fun c67 => ?_)
          · skip
            refine f_skip ?_
            refine f_tn (kh19 _ _ ?_)
            clear kh19
            refine f_seq fun K20 kh20 => ?_
            refine f_block ?_
            refine f_seq fun K21 kh21 => ?_
            refine f_region ?_
            have hk : k < l.length := by omega
            obtain ⟨bl, off, rfl, hS, hc⟩ := hr (flat_ne arcCs arcCs_len (by omega) hk)
            refine f_stepP rfl rfl rfl (o_idx sl22 rfl rfl (off + k * 3) ⟨by omega, by omega, by first | omega | (simp; done) | (simp; omega)⟩) ?_
            refine f_stepP rfl rfl rfl (o_loadA (vs := arcCs l[k]) Try.isAgg34 Try.sizeOf34 rfl rfl (roElem arcCs_len hS hc hk)) ?_
            refine f_step rfl rfl rfl (o_alloc Try.zeroValue34 rfl fun b15 => ?_)
            refine f_step0 rfl rfl (o_storeA Try.sizeOf34 rfl rfl rfl rfl (by first | exact Nat.le_of_ble_eq_true rfl | (simp; done) | (simp; omega)) _ rfl ?_)
            refine f_done ?_
            refine f_tn (kh21 _ _ ?_)
            clear kh21
            refine f_region ?_
            refine f_stepP rfl rfl rfl (o_move rfl) ?_
            refine f_stepP rfl rfl rfl (o_field fa34_2 rfl) ?_
            refine f_stepP rfl rfl rfl (o_load Try.isAgg32 rfl (rdA rfl)) ?_
            refine f_step rfl rfl rfl (o_slice1 el47 (by omega) rfl rfl rfl fun b73 => ?_)
            refine f_step rfl rfl rfl (o_append el47 rfl rfl o13 (ys := [.int .u32 l[k].wt]) ⟨(rdA rfl), trivial⟩ rfl rfl (by omega) (by omega) fun v74 m74 o74 => ?_)
            obtain ⟨A74, cap74, rfl, _⟩ := o74.val
            refine f_stepP rfl rfl rfl (o_assign rfl) ?_
            refine f_done ?_
            refine f_bn ?_
            refine f_tn (kh20 _ _ ?_)
            clear kh20
            refine f_region ?_
            refine f_stepP rfl rfl rfl (o_add rfl rfl _ (wrap_i64 (by omega))) ?_
            refine f_stepP rfl rfl rfl (o_move rfl) ?_
            refine f_done ?_
            refine f_tn (f_again (k + 1, _, m74) (by first | omega | (dsimp only; omega) | (simp; omega)) ⟨by omega, by rw [List.take_succ_eq_append_getElem hk, List.map_append, List.length_append]; exact o74⟩ ?_ ?_ ?_)
            · exact (by repeat (first | exact trivial | refine ⟨rfl, ?_⟩))
            · exact (by repeat (first | exact trivial | refine ⟨rfl, ?_⟩))
            · repeat (first | exact Sub.nil | refine Sub.pick ?_ | refine Sub.castO rfl ?_ | refine Sub.skip ?_)
          · skip
            refine f_exit ?_
            refine f_te ?_
            clear kh19
            refine f_te ?_
            refine f_be ?_
            refine f_tn (kh16 _ _ ?_)
            clear kh16
            refine f_seq fun K22 kh22 => ?_
            have et : l.take k = l := List.take_of_length_le (by omega)
            rw [et] at o13 ⊢
            refine f_region ?_
            refine f_stepP rfl rfl rfl (o_loadA (vs := [_, _]) Try.isAgg24 Try.sizeOf24 rfl rfl ⟨(rdA rfl), (rdA rfl), trivial⟩) ?_
            refine f_stepP rfl rfl rfl (o_move rfl) ?_
            refine f_step rfl rfl rfl (o_call Try.call19 rfl (fun w_ hp_ => (by have h := Weigh_spec N A7 (chg l a) cap7 A13 (l.map Arc.wt) cap13 w_ (seen_ro (o7.seen hp_)) (own_none o7) (by rw [List.map_map]; exact seen_ro (o13.seen hp_)) (by rw [chg_len]; omega) hN (chg_ok hoa hok); rw [List.length_map, weigh_back hg0] at h; exact h)) ?_)
            rintro _ _ ⟨s16, m16, rfl, rfl, o16⟩
            obtain ⟨A16, cap16, rfl, hc16⟩ := o16.val
            dsimp only [List.cons_append, List.nil_append]
            refine f_stepP rfl rfl rfl (o_move rfl) ?_
            refine f_stepP rfl rfl rfl (o_extract rfl rfl) ?_
            refine f_stepP rfl rfl rfl (o_extract rfl rfl) ?_
            refine f_step rfl rfl rfl (o_alloc Try.zeroValue24 rfl fun b16 => ?_)
            refine f_step0 rfl rfl (o_storeA Try.sizeOf24 rfl rfl rfl rfl (by first | exact Nat.le_of_ble_eq_true rfl | (simp; done) | (simp; omega)) _ rfl ?_)
            refine f_stepP rfl rfl rfl (o_assign rfl) ?_
            refine f_done ?_
            refine f_tn (kh22 _ _ ?_)
            clear kh22
            refine f_seq fun K23 kh23 => ?_
            refine f_region ?_
            refine f_stepP rfl rfl rfl (o_move rfl) ?_
            refine f_stepP rfl rfl rfl (o_eql rfl rfl) ?_
            refine f_stepP rfl rfl rfl (o_move rfl) ?_
            refine f_trueL 84 rfl (rfl) ?_
            refine f_stepPY rfl rfl rfl rfl rfl (o_loadA (vs := [_, _]) Try.isAgg24 Try.sizeOf24 rfl rfl ⟨(rdA rfl), (rdA rfl), trivial⟩) ?_
            refine f_stepPY rfl rfl rfl rfl rfl (o_loadA (vs := [_, _]) Try.isAgg24 Try.sizeOf24 rfl rfl ⟨(rdA rfl), (rdA rfl), trivial⟩) ?_
            refine f_stepY rfl rfl rfl rfl rfl (o_call Try.call15 rfl (fun w_ hp_ => SameGraph_spec N N A16 A l l cap16 cap w_ (seen_ro (o16.seen hp_)) (hr.up0 hp_) hl) ?_)
            rintro _ _ ⟨rfl, rfl⟩
            rw [decide_eq_true (show N = N ∧ l = l from ⟨rfl, rfl⟩)]
            dsimp only [List.cons_append, List.nil_append]
            refine f_stepP rfl rfl rfl (o_pickT rfl rfl) ?_
            refine f_stepP rfl rfl rfl (o_assign rfl) ?_
            refine f_done ?_
            refine f_tn (kh23 _ _ ?_)
            clear kh23
            refine f_ret ?_
            exact f_fin1 [] Try.results7 rfl Sub.nil ⟨rfl, rfl⟩

end Go.Proofs.Ythbkeoejbendnaa
