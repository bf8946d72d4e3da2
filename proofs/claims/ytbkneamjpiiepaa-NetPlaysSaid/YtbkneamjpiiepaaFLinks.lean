/- The links with letters, in order. -/
import Derived.Test.YtbkneamjpiiepaaFNet
import Derived.Test.YtbkneamjpiiepaaFlyRange
import Derived.Test.YtbkneamjpiiepaaPLink
import Derived.Test.YtbkneamjpiiepaaFlySortF
import Derived.Test.YtbkneamjpiiepaaLaySF2
namespace Go.Proofs.Ytbkneamjpiiepaa
open Go Go.RowKit Fly
set_option linter.unusedVariables false
set_option linter.unusedSimpArgs false


theorem roAt {S : Nat → Prop} {w0 w : World} {segs : List Seg} {b : Nat} {cs : List Value} {T : TypeId} {f : Seg → List Seg} [h : At segs b (blk cs T) f] (hp : Hp S w0 segs.flatten w) : Ro (Fr w []) w (some ⟨b, 0, none⟩) cs := fun _ => by
  have hb := hp.own b _ h.mem
  exact ⟨b, 0, rfl, ⟨hp.key_lt h.mem, by simp⟩, fun j v hj => by simp [World.cell?, hb, hj]⟩
theorem keys_bag {A : NetM} {ents : List ((Int × Int) × Value × Nat)} {clk : Nat} {tv : Value} {mt G : Seg} (h : NetAt A ents clk tv mt G) (k : Int × Int) : k ∈ ents.map (·.1) ↔ A.bag k ≠ [] := by
  constructor
  · intro hk
    cases hg : mget ents k with
    | none => exact absurd hk (mget_none.1 hg)
    | some v => exact h.full k v hg
  · intro hk
    refine Classical.byContradiction fun hn => hk (h.zero k (mget_none.2 hn))
theorem ents_len {A : NetM} {ents : List ((Int × Int) × Value × Nat)} {clk : Nat} {tv : Value} {mt G : Seg} (h : NetAt A ents clk tv mt G) : ents.length ≤ 4225 := by
  have h1 : (ents.map (·.1)).length ≤ (allP A.down.length).length := List.Nodup.length_le_of_subset h.mok.keys fun k hk => by
    have := h.keyok k ((keys_bag h k).1 hk)
    unfold NetM.Bad NetM.Non at this
    exact mem_allP.2 (by omega)
  rw [allP_len, List.length_map] at h1
  exact Nat.le_trans h1 (Nat.le_trans (Nat.mul_le_mul h.nodes h.nodes) (by decide))
theorem own0 {E m b : Nat} {zs : List Value} (hm : m ≤ 4225) (hz : zs.length = m * 2) : Own E 2 (.slice (some ⟨b, 0, none⟩) 0 m) 0 [] [(b, blk zs E)] :=
  ⟨rfl, .inr ⟨b, m, zs, rfl, rfl, by omega, by omega, by simpa using hz⟩⟩
theorem prRo {w : World} {b : Nat} {x : Int × Int} (hS : b < w.heap.size) (hb : w.heap[b]? = some (blk (prCs x) 60)) : Ro (Fr w []) w (some ⟨b, 0, none⟩) (prCs x) := fun _ =>
  ⟨b, 0, rfl, ⟨hS, by simp⟩, fun j v hj => by simp [World.cell?, hb, hj]⟩

set_option maxRecDepth 100000 in
set_option maxHeartbeats 4000000 in
theorem isNaN_spec (x : Int) (w : World) : Meets Try.prog 75 [.int .i64 x] w [] (fun u m => u = .bool false ∧ m = []) := by
  refine f_enter Try.func75 rfl Try.ntmps75 rfl Owns.nil ?_
  refine f_seq fun K1 kh1 => ?_
  refine f_region ?_
  refine f_stepP rfl rfl rfl (o_assign rfl) ?_
  refine f_done ?_
  refine f_tn (kh1 _ _ ?_)
  clear kh1
  refine f_seq fun K2 kh2 => ?_
  refine f_region ?_
  refine f_stepP rfl rfl rfl (o_move rfl) ?_
  refine f_stepP rfl rfl rfl (o_move rfl) ?_
  refine f_stepP rfl rfl rfl (o_neq rfl rfl) ?_
  refine f_stepP rfl rfl rfl (o_assign rfl) ?_
  refine f_done ?_
  refine f_tn (kh2 _ _ ?_)
  clear kh2
  refine f_ret ?_
  exact f_fin1 [] Try.results75 rfl Sub.nil ⟨by simp, rfl⟩

set_option maxRecDepth 100000 in
set_option maxHeartbeats 4000000 in
theorem cmpI_spec (x y : Int) (w : World) : Meets Try.prog 57 [.int .i64 x, .int .i64 y] w [] (fun u m => u = .int .i64 (cmpI x y) ∧ m = []) := by
  refine f_enter Try.func57 rfl Try.ntmps57 rfl Owns.nil ?_
  refine f_seq fun K1 kh1 => ?_
  refine f_region ?_
  refine f_stepP rfl rfl rfl (o_assign rfl) ?_
  refine f_done ?_
  refine f_tn (kh1 _ _ ?_)
  clear kh1
  refine f_seq fun K2 kh2 => ?_
  refine f_region ?_
  refine f_stepP rfl rfl rfl (o_move rfl) ?_
  refine f_step rfl rfl rfl (o_call Try.call75 rfl (fun w_ hp_ => isNaN_spec x w_) ?_)
  rintro _ _ ⟨rfl, rfl⟩
  dsimp only [List.cons_append, List.nil_append]
  refine f_stepP rfl rfl rfl (o_assign rfl) ?_
  refine f_done ?_
  refine f_tn (kh2 _ _ ?_)
  clear kh2
  refine f_seq fun K3 kh3 => ?_
  refine f_region ?_
  refine f_stepP rfl rfl rfl (o_move rfl) ?_
  refine f_step rfl rfl rfl (o_call Try.call75 rfl (fun w_ hp_ => isNaN_spec y w_) ?_)
  rintro _ _ ⟨rfl, rfl⟩
  dsimp only [List.cons_append, List.nil_append]
  refine f_stepP rfl rfl rfl (o_assign rfl) ?_
  refine f_done ?_
  refine f_tn (kh3 _ _ ?_)
  clear kh3
  refine f_seq fun K4 kh4 => ?_
  refine f_seq fun K5 kh5 => ?_
  refine f_region ?_
  refine f_stepP rfl rfl rfl (o_move rfl) ?_
  refine f_done ?_
  refine f_tn (kh5 _ _ ?_)
  clear kh5
  refine f_condF rfl ?_
  refine f_skip ?_
  refine f_tn (kh4 _ _ ?_)
  clear kh4
  refine f_seq fun K6 kh6 => ?_
  refine f_seq fun K7 kh7 => ?_
  refine f_region ?_
  refine f_stepP rfl rfl rfl (o_move rfl) ?_
  refine f_done ?_
  refine f_tn (kh7 _ _ ?_)
  clear kh7
  refine f_condF rfl ?_
  refine f_skip ?_
  refine f_tn (kh6 _ _ ?_)
  clear kh6
  refine f_seq fun K8 kh8 => ?_
  refine f_seq fun K9 kh9 => ?_
  refine f_region ?_
  refine f_stepP rfl rfl rfl (o_move rfl) ?_
  refine f_stepP rfl rfl rfl (o_move rfl) ?_
  refine f_stepP rfl rfl rfl (o_lss rfl rfl) ?_
  refine f_done ?_
  refine f_tn (kh9 _ _ ?_)
  clear kh9
  refine f_cond rfl (fun c16 => ?_) (fun c16 => ?_)
  · skip
    refine f_seq fun K10 kh10 => ?_
    refine f_region ?_
    refine f_stepP rfl rfl rfl (o_assign rfl) ?_
    refine f_done ?_
    refine f_tn (kh10 _ _ ?_)
    clear kh10
    refine f_ret ?_
    refine f_tr ?_
    exact f_fin1 [] Try.results57 rfl Sub.nil ⟨by rw [cmpI, if_pos (by omega)], rfl⟩
  · skip
    refine f_skip ?_
    refine f_tn (kh8 _ _ ?_)
    clear kh8
    refine f_seq fun K11 kh11 => ?_
    refine f_seq fun K12 kh12 => ?_
    refine f_region ?_
    refine f_stepP rfl rfl rfl (o_move rfl) ?_
    refine f_stepP rfl rfl rfl (o_move rfl) ?_
    refine f_stepP rfl rfl rfl (o_gtr rfl rfl) ?_
    refine f_done ?_
    refine f_tn (kh12 _ _ ?_)
    clear kh12
    refine f_cond rfl (fun c19 => ?_) (fun c19 => ?_)
    · skip
      refine f_seq fun K13 kh13 => ?_
      refine f_region ?_
      refine f_stepP rfl rfl rfl (o_assign rfl) ?_
      refine f_done ?_
      refine f_tn (kh13 _ _ ?_)
      clear kh13
      refine f_ret ?_
      refine f_tr ?_
      exact f_fin1 [] Try.results57 rfl Sub.nil ⟨by rw [cmpI, if_neg (by omega), if_pos (by omega)], rfl⟩
    · skip
      refine f_skip ?_
      refine f_tn (kh11 _ _ ?_)
      clear kh11
      refine f_seq fun K14 kh14 => ?_
      refine f_region ?_
      refine f_stepP rfl rfl rfl (o_assign rfl) ?_
      refine f_done ?_
      refine f_tn (kh14 _ _ ?_)
      clear kh14
      refine f_ret ?_
      exact f_fin1 [] Try.results57 rfl Sub.nil ⟨by rw [cmpI, if_neg (by omega), if_neg (by omega)], rfl⟩

set_option maxRecDepth 100000 in
set_option maxHeartbeats 4000000 in
theorem cmpS_spec (b1 b2 : Nat) (x y : Int × Int) (w : World) (hl : Ro (Fr w []) w (some ⟨b1, 0, none⟩) (prCs x)) (hr : Ro (Fr w []) w (some ⟨b2, 0, none⟩) (prCs y)) :
    Meets Try.prog 39 [.slice (some ⟨b1, 0, none⟩) 2 2, .slice (some ⟨b2, 0, none⟩) 2 2] w [] (fun u m => u = .int .i64 (cmpP x y) ∧ m = []) := by
  obtain ⟨_, _, e1, hS1, hc1⟩ := hl (by simp [prCs])
  cases e1
  obtain ⟨_, _, e2, hS2, hc2⟩ := hr (by simp [prCs])
  cases e2
  refine f_enter Try.func39 rfl Try.ntmps39 rfl Owns.nil ?_
  refine f_seq fun K1 kh1 => ?_
  refine f_region ?_
  refine f_stepP rfl rfl rfl (o_assign rfl) ?_
  refine f_done ?_
  refine f_tn (kh1 _ _ ?_)
  clear kh1
  refine f_seq fun K2 kh2 => ?_
  refine f_seq fun K3 kh3 => ?_
  refine f_region ?_
  refine f_stepP rfl rfl rfl (o_move rfl) ?_
  refine f_stepP rfl rfl rfl (o_len sl74 rfl) ?_
  refine f_stepP rfl rfl rfl (o_move rfl) ?_
  refine f_done ?_
  refine f_tn (kh3 _ _ ?_)
  clear kh3
  refine f_block ?_
  refine f_loopK (α := Nat) [0, 1, 9, 10] (fun k => [(11, .int .i64 (k : Int))]) (fun k => k ≤ 2 ∧ (0 < k → cmpI x.1 y.1 = 0) ∧ (1 < k → cmpI x.2 y.2 = 0)) (fun k => 2 - k) (0) ?_ ?_ ?_
  · exact (by repeat (first | exact trivial | refine ⟨rfl, ?_⟩))
  · exact ⟨by omega, fun h => absurd h (by omega), fun h => absurd h (by omega)⟩
  · rintro k ⟨hkl, hp1, hp2⟩
    refine f_seq fun K4 kh4 => ?_
    refine f_region ?_
    refine f_stepP rfl rfl rfl (o_lss rfl rfl) ?_
    refine f_done ?_
    refine f_tn (kh4 _ _ ?_)
    clear kh4
    refine f_seq fun K5 kh5 => ?_
    refine f_cond rfl (fun c12 => ?_) (fun c12 => ?_)
    · skip
      refine f_skip ?_
      refine f_tn (kh5 _ _ ?_)
      clear kh5
      refine f_seq fun K6 kh6 => ?_
      refine f_block ?_
      refine f_seq fun K7 kh7 => ?_
      refine f_region ?_
      refine f_stepP rfl rfl rfl (o_move rfl) ?_
      have hk : k < 2 := by omega
      obtain ⟨xk, hxk⟩ : ∃ xk, (prCs x)[k]? = some (.int .i64 xk) := by
        rcases Nat.lt_or_ge 0 k with h | h
        · obtain rfl : k = 1 := by omega
          exact ⟨_, rfl⟩
        · obtain rfl : k = 0 := by omega
          exact ⟨_, rfl⟩
      obtain ⟨yk, hyk⟩ : ∃ yk, (prCs y)[k]? = some (.int .i64 yk) := by
        rcases Nat.lt_or_ge 0 k with h | h
        · obtain rfl : k = 1 := by omega
          exact ⟨_, rfl⟩
        · obtain rfl : k = 0 := by omega
          exact ⟨_, rfl⟩
      have hw : (k = 0 ∧ xk = x.1 ∧ yk = y.1) ∨ (k = 1 ∧ xk = x.2 ∧ yk = y.2) := by
        rcases Nat.lt_or_ge 0 k with h | h
        · obtain rfl : k = 1 := by omega
          simp [prCs] at hxk hyk
          exact .inr ⟨rfl, hxk.symm, hyk.symm⟩
        · obtain rfl : k = 0 := by omega
          simp [prCs] at hxk hyk
          exact .inl ⟨rfl, hxk.symm, hyk.symm⟩
      refine f_stepP rfl rfl rfl (o_idx sl74 rfl rfl (0 + k) ⟨by omega, by omega, by first | omega | (simp; done) | (simp; omega)⟩) ?_
      refine f_stepP rfl rfl rfl (o_load Try.isAgg3 rfl (rdS hS1 (hc1 k _ hxk))) ?_
      refine f_stepP rfl rfl rfl (o_assign rfl) ?_
      refine f_stepP rfl rfl rfl (o_assign rfl) ?_
      refine f_done ?_
      refine f_tn (kh7 _ _ ?_)
      clear kh7
      refine f_seq fun K8 kh8 => ?_
      refine f_seq fun K9 kh9 => ?_
      refine f_region ?_
      refine f_stepP rfl rfl rfl (o_move rfl) ?_
      refine f_stepP rfl rfl rfl (o_move rfl) ?_
      refine f_stepP rfl rfl rfl (o_len sl74 rfl) ?_
      refine f_stepP rfl rfl rfl (o_geq rfl rfl) ?_
      refine f_done ?_
      refine f_tn (kh9 _ _ ?_)
      clear kh9
      refine f_cond rfl (fun c19 => ?_) (fun c19 => ?_)
      · skip
        refine f_seq fun K10 kh10 => ?_
        refine f_region ?_
        refine f_stepP rfl rfl rfl (o_assign rfl) ?_
        refine f_done ?_
        refine f_tn (kh10 _ _ ?_)
        clear kh10
        refine f_ret ?_
        refine f_tr ?_
        refine f_br ?_
        refine f_tr ?_
        refine f_tr ?_
        refine f_br ?_
        refine f_tr ?_
        omega
      · skip
        refine f_skip ?_
        refine f_tn (kh8 _ _ ?_)
        clear kh8
        refine f_seq fun K11 kh11 => ?_
        refine f_region ?_
        refine f_stepP rfl rfl rfl (o_move rfl) ?_
        refine f_stepP rfl rfl rfl (o_move rfl) ?_
        refine f_stepP rfl rfl rfl (o_idx sl74 rfl rfl (0 + k) ⟨by omega, by omega, by first | omega | (simp; done) | (simp; omega)⟩) ?_
        refine f_stepP rfl rfl rfl (o_load Try.isAgg3 rfl (rdS hS2 (hc2 k _ hyk))) ?_
        refine f_stepP rfl rfl rfl (o_assign rfl) ?_
        refine f_done ?_
        refine f_tn (kh11 _ _ ?_)
        clear kh11
        refine f_seq fun K12 kh12 => ?_
        refine f_region ?_
        refine f_stepP rfl rfl rfl (o_move rfl) ?_
        refine f_stepP rfl rfl rfl (o_move rfl) ?_
        refine f_step rfl rfl rfl (o_call Try.call57 rfl (fun w_ hp_ => cmpI_spec xk yk w_) ?_)
        rintro _ _ ⟨rfl, rfl⟩
        dsimp only [List.cons_append, List.nil_append]
        refine f_stepP rfl rfl rfl (o_assign rfl) ?_
        refine f_done ?_
        refine f_tn (kh12 _ _ ?_)
        clear kh12
        refine f_seq fun K13 kh13 => ?_
        refine f_region ?_
        refine f_stepP rfl rfl rfl (o_move rfl) ?_
        refine f_stepP rfl rfl rfl (o_neq rfl rfl) ?_
        refine f_done ?_
        refine f_tn (kh13 _ _ ?_)
        clear kh13
        refine f_cond rfl (fun c28 => ?_) (fun c28 => ?_)
        · skip
          refine f_seq fun K14 kh14 => ?_
          refine f_region ?_
          refine f_stepP rfl rfl rfl (o_move rfl) ?_
          refine f_stepP rfl rfl rfl (o_assign rfl) ?_
          refine f_done ?_
          refine f_tn (kh14 _ _ ?_)
          clear kh14
          refine f_ret ?_
          refine f_br ?_
          refine f_tr ?_
          refine f_tr ?_
          refine f_br ?_
          refine f_tr ?_
          exact f_fin1 [] Try.results39 rfl Sub.nil ⟨by
            congr 1
            rcases hw with ⟨h, rfl, rfl⟩ | ⟨h, rfl, rfl⟩
            · rw [cmpP, if_pos c28]
            · rw [cmpP, if_neg (by rw [hp1 (by omega)]; simp)], rfl⟩
        · skip
          have hq : cmpI x.1 y.1 = 0 ∧ (1 ≤ k → cmpI x.2 y.2 = 0) := by
            rcases hw with ⟨h, rfl, rfl⟩ | ⟨h, rfl, rfl⟩
            · exact ⟨by simpa using c28, fun h => absurd h (by omega)⟩
            · exact ⟨hp1 (by omega), fun _ => by simpa using c28⟩
          refine f_skip ?_
          refine f_bn ?_
          refine f_tn (kh6 _ _ ?_)
          clear kh6
          refine f_region ?_
          refine f_stepP rfl rfl rfl (o_add rfl rfl _ (wrap_i64 (by omega))) ?_
          refine f_stepP rfl rfl rfl (o_move rfl) ?_
          refine f_done ?_
          refine f_tn (f_again (k + 1) (by first | omega | (dsimp only; omega) | (simp; omega)) ⟨by omega, fun _ => hq.1, fun _ => hq.2 (by omega)⟩ ?_ ?_ ?_)
          · exact (by repeat (first | exact trivial | refine ⟨rfl, ?_⟩))
          · exact (by repeat (first | exact trivial | refine ⟨rfl, ?_⟩))
          · repeat (first | exact Sub.nil | refine Sub.pick ?_ | refine Sub.castO rfl ?_ | refine Sub.skip ?_)
    · skip
      refine f_exit ?_
      refine f_te ?_
      clear kh5
      refine f_te ?_
      refine f_be ?_
      refine f_tn (kh2 _ _ ?_)
      clear kh2
      refine f_seq fun K15 kh15 => ?_
      refine f_seq fun K16 kh16 => ?_
      refine f_region ?_
      refine f_stepP rfl rfl rfl (o_move rfl) ?_
      refine f_stepP rfl rfl rfl (o_len sl74 rfl) ?_
      refine f_stepP rfl rfl rfl (o_move rfl) ?_
      refine f_stepP rfl rfl rfl (o_len sl74 rfl) ?_
      refine f_stepP rfl rfl rfl (o_lss rfl rfl) ?_
      refine f_done ?_
      refine f_tn (kh16 _ _ ?_)
      clear kh16
      refine f_cond rfl (fun c35 => ?_) (fun c35 => ?_)
      · skip
        refine f_seq fun K17 kh17 => ?_
        refine f_region ?_
        refine f_stepP rfl rfl rfl (o_assign rfl) ?_
        refine f_done ?_
        refine f_tn (kh17 _ _ ?_)
        clear kh17
        refine f_ret ?_
        refine f_tr ?_
        omega
      · skip
        refine f_skip ?_
        refine f_tn (kh15 _ _ ?_)
        clear kh15
        refine f_seq fun K18 kh18 => ?_
        refine f_region ?_
        refine f_stepP rfl rfl rfl (o_assign rfl) ?_
        refine f_done ?_
        refine f_tn (kh18 _ _ ?_)
        clear kh18
        refine f_ret ?_
        exact f_fin1 [] Try.results39 rfl Sub.nil ⟨by rw [cmpP, if_neg (by rw [hp1 (by omega)]; simp), hp2 (by omega)], rfl⟩

set_option maxRecDepth 100000 in
set_option maxHeartbeats 4000000 in
theorem Links1_spec (x y : Int × Int) (w : World) : Meets Try.prog 38 [.agg (prCs x).toArray, .agg (prCs y).toArray] w [] (fun u m => u = .int .i64 (cmpP x y)) := by
  refine f_enter Try.func38 rfl Try.ntmps38 rfl Owns.nil ?_
  refine f_seq fun K1 kh1 => ?_
  refine f_region ?_
  refine f_step rfl rfl rfl (o_box rfl rfl fun b2 => ?_)
  refine f_step rfl rfl rfl (o_box rfl rfl fun b3 => ?_)
  refine f_stepP rfl rfl rfl (o_assign rfl) ?_
  refine f_done ?_
  refine f_tn (kh1 _ _ ?_)
  clear kh1
  refine f_seq fun K2 kh2 => ?_
  refine f_regionH [[(b2, blk [.int .i64 x.1, .int .i64 x.2] 60)], [(b3, blk [.int .i64 y.1, .int .i64 y.2] 60)]] rfl ?_
  refine f_take 0 rfl (by decide +kernel) rfl rfl rfl (by repeat (first | exact Sub.nil | refine Sub.pick ?_ | refine Sub.castO rfl ?_ | refine Sub.skip ?_)) (o_sliceA Try.underlying60 Try.sizeOf3 rfl) ?_
  refine f_take 1 rfl (by decide +kernel) rfl rfl rfl (by repeat (first | exact Sub.nil | refine Sub.pick ?_ | refine Sub.castO rfl ?_ | refine Sub.skip ?_)) (o_sliceA Try.underlying60 Try.sizeOf3 rfl) ?_
  refine f_only 2 rfl (by decide +kernel) rfl rfl rfl (o_call Try.call39 rfl (fun w_ hp_ => cmpS_spec b2 b3 x y w_ (roAt hp_) (roAt hp_)) ?_)
  rintro _ _ ⟨rfl, rfl⟩
  dsimp only [List.cons_append, List.nil_append]
  refine ⟨(by repeat (first | exact Sub.nil | refine Sub.pick ?_ | refine Sub.castO rfl ?_ | refine Sub.skip ?_)), ?_⟩
  refine f_only 3 rfl (by decide +kernel) rfl rfl rfl ((o_assign rfl).does ⟨(by repeat (first | exact Sub.nil | refine Sub.pick ?_ | refine Sub.castO rfl ?_ | refine Sub.skip ?_)), ?_⟩)
  refine f_over (by decide +kernel) ?_
  refine f_tn (kh2 _ _ ?_)
  clear kh2
  refine f_ret ?_
  exact f_fin1 [] Try.results38 rfl Sub.nil rfl


theorem SortP_spec (A : Option Addr) (cap : Nat) (l : List (Int × Int)) (m : Seg) (w : World) (ho : Own 60 2 (.slice A l.length cap) l.length (l.flatMap prCs) m) (hl : l.length < 4611686018427387904) (hw : Owns w [m]) :
    Meets Try.prog 37 [.slice A l.length cap, .func (.func 38) #[] #[]] w [m] (fun u own' => u = .tuple #[] ∧ ∃ m', own' = [m'] ∧ Own 60 2 (.slice A l.length cap) l.length ((l.mergeSort fun x y => !(Go.Proofs.ltOf cmpP) y x).flatMap prCs) m') :=
  meets_sortF Try.laysSF2 2 Try.isAgg60 Try.sizeOf60 prCs prCs_len (fun x v hv => by simp [prCs] at hv; rcases hv with rfl | rfl <;> rfl) cmpP swoP totP 38 Try.call38 (fun x y W => Links1_spec x y W) A cap l m w ho hl hw

set_option maxRecDepth 100000 in
set_option maxHeartbeats 4000000 in
theorem Links_spec (A : NetM) (bn : Nat) (m : Seg) (w : World) (hN : NetRep A bn m) (ho : Owns w [m]) :
    Meets Try.prog 21 [.pointer (some ⟨bn, 0, none⟩)] w [m] (fun u own' => ∃ ms m', own' = [m', ms] ∧ NetRep A bn m' ∧ Own 60 2 u A.links.length (A.links.flatMap prCs) ms) := by
  refine f_enter Try.func21 rfl Try.ntmps21 rfl ho ?_
  obtain ⟨bd, bm, ents, clk, tv, mt, G, hm, hA⟩ := hN
  refine f_subC (Sub.of_perm hm) ?_
  unfold netSegs
  have hmok := hA.mok
  have hel := ents_len hA
  refine f_seq fun K1 kh1 => ?_
  refine f_region ?_
  refine f_stepP rfl rfl rfl (o_assign rfl) ?_
  refine f_done ?_
  refine f_tn (kh1 _ _ ?_)
  clear kh1
  refine f_seq fun K2 kh2 => ?_
  refine f_region ?_
  refine f_stepP rfl rfl rfl (o_move rfl) ?_
  refine f_stepP rfl rfl rfl (o_nil rfl) ?_
  refine f_stepP rfl rfl rfl (o_field fa59_1 rfl) ?_
  refine f_stepP rfl rfl rfl (o_load Try.isAgg57 rfl (rdA rfl)) ?_
  refine f_stepP rfl rfl rfl (o_lenM kt57.und rfl) ?_
  refine f_step rfl rfl rfl (o_makeC el48 rfl rfl _ rfl (by omega) (by omega) fun b10 => ?_)
  refine f_stepP rfl rfl rfl (o_assign rfl) ?_
  refine f_done ?_
  refine f_tn (kh2 _ _ ?_)
  clear kh2
  refine f_seq fun K3 kh3 => ?_
  refine f_seq fun K4 kh4 => ?_
  refine f_region ?_
  refine f_stepP rfl rfl rfl (o_move rfl) ?_
  refine f_stepP rfl rfl rfl (o_nil rfl) ?_
  refine f_stepP rfl rfl rfl (o_field fa59_1 rfl) ?_
  refine f_stepP rfl rfl rfl (o_load Try.isAgg57 rfl (rdA rfl)) ?_
  refine f_step rfl rfl rfl (o_range kt57 rfl fun b15 => ?_)
  refine f_done ?_
  refine f_tn (kh4 _ _ ?_)
  clear kh4
  refine f_block ?_
  refine f_loop (α := List Nat × List (Int × Int) × Value × Seg) [15] (fun ⟨seen, out, vo, m1⟩ => [(3, vo)]) (fun ⟨seen, out, vo, m1⟩ => [[(b15, itObj bm clk seen)], m1, [(bn, blk [.slice (some ⟨bd, 0, none⟩) A.down.length A.down.length, .map (some bm), tv, .int .i64 A.now] 59)], [(bd, blk (bools A.down) 4)], [(bm, mobj enc2 ents clk)], mt, G]) (fun ⟨seen, out, vo, m1⟩ => Came ents seen out ∧ Own 60 2 vo out.length (out.flatMap prCs) m1) (fun ⟨seen, out, vo, m1⟩ => ents.length - out.length) ([], [], .slice (some ⟨b10, 0, none⟩) 0 ents.length, [(b10, blk (List.replicate ents.length [Value.int .i64 0, .int .i64 0]).flatten 60)]) ?_ ?_ ?_ ?_
  · exact (by repeat (first | exact trivial | refine ⟨rfl, ?_⟩))
  · repeat (first | exact Sub.nil | refine Sub.pick ?_ | refine Sub.castO rfl ?_ | refine Sub.skip ?_)
  · exact ⟨Came.start, own0 hel (by simp)⟩
  · rintro ⟨seen, out, vo, m1⟩ ⟨hca, ho1⟩
    have hol := hca.len
    refine f_seq fun K5 kh5 => ?_
    refine f_region ?_
    refine f_step rfl rfl rfl (o_next1 hmok rfl fun q16 r16 seen1 hnx => ?_)
    refine f_stepP rfl rfl rfl (o_extract rfl rfl) ?_
    refine f_done ?_
    refine f_tn (kh5 _ _ ?_)
    clear kh5
    refine f_seq fun K6 kh6 => ?_
    refine f_condB rfl (fun c17 => ?_) (fun c17 => ?_)
    · skip
      obtain ⟨e, he, hne, rfl⟩ : ∃ e ∈ ents, e.2.2 ∉ seen ∧ seen1 = seen ++ [e.2.2] := by
        rcases hnx with ⟨_, h⟩ | ⟨h, _⟩
        · exact h
        · rw [h] at c17; cases c17
      have hca2 := hca.next hmok he hne
      refine f_skip ?_
      refine f_tn (kh6 _ _ ?_)
      clear kh6
      refine f_block ?_
      refine f_seq fun K7 kh7 => ?_
      refine f_region ?_
      refine f_stepP rfl rfl rfl (o_entry hmok he rfl) ?_
      refine f_stepP rfl rfl rfl (o_extract rfl rfl) ?_
      refine f_step rfl rfl rfl (o_alloc Try.zeroValue61 rfl fun b4 => ?_)
      refine f_step0 rfl rfl (o_storeA Try.sizeOf61 rfl rfl rfl rfl (by first | exact Nat.le_of_ble_eq_true rfl | (simp; done) | (simp; omega)) (prCs e.1) rfl ?_)
      refine f_done ?_
      refine f_tn (kh7 _ _ ?_)
      clear kh7
      refine f_region ?_
      refine f_stepP rfl rfl rfl (o_move rfl) ?_
      refine f_stepP rfl rfl rfl (o_loadA (vs := [_, _]) Try.isAgg61 Try.sizeOf61 rfl rfl ⟨(rdA rfl), (rdA rfl), trivial⟩) ?_
      refine f_step rfl rfl rfl (o_slice1 el48 (by omega) rfl rfl rfl fun b22 => ?_)
      refine f_step rfl rfl rfl (o_append el48 rfl rfl ho1 (ys := prCs e.1) ⟨(rdA rfl), (rdA rfl), trivial⟩ rfl rfl (by omega) (by omega) fun v23 m23 o23 => ?_)
      refine f_stepP rfl rfl rfl (o_assign rfl) ?_
      refine f_done ?_
      refine f_bn ?_
      refine f_tn (f_again (seen ++ [e.2.2], out ++ [e.1], v23, m23) (by have := hca2.len; simp at this ⊢; omega) ⟨hca2, by rw [List.length_append, List.flatMap_append]; simpa [prCs] using o23⟩ ?_ ?_ ?_)
      · exact (by repeat (first | exact trivial | refine ⟨rfl, ?_⟩))
      · exact (by repeat (first | exact trivial | refine ⟨rfl, ?_⟩))
      · repeat (first | exact Sub.nil | refine Sub.pick ?_ | refine Sub.castO rfl ?_ | refine Sub.skip ?_)
    · skip
      obtain ⟨rfl, hall⟩ : seen1 = seen ∧ ∀ e ∈ ents, e.2.2 ∈ seen := by
        rcases hnx with ⟨h, _⟩ | ⟨_, h⟩
        · rw [h] at c17; cases c17
        · exact h
      refine f_exit ?_
      refine f_te ?_
      clear kh6
      refine f_te ?_
      refine f_be ?_
      refine f_tn (kh3 _ _ ?_)
      clear kh3
      refine f_seq fun K8 kh8 => ?_
      have hlk := links_is hca.nodup (fun k => (hca.all hall k).trans (keys_bag hA k)) hA.keyok
      obtain ⟨Ao, co, rfl, hco⟩ := ho1.val
      refine f_region ?_
      refine f_stepP rfl rfl rfl (o_move rfl) ?_
      refine f_step rfl rfl rfl (o_callM [m1] _ Try.call37 rfl (by repeat (first | exact Sub.refl | refine Sub.pick ?_)) (fun w_ hp_ => SortP_spec Ao co out m1 w_ ho1 (by omega) hp_.owns) ?_)
      rintro v25 _ ⟨rfl, m2, rfl, ho2⟩
      rw [hlk] at ho2
      have hln : out.length = A.links.length := by rw [← hlk, List.length_mergeSort]
      dsimp only [List.cons_append, List.nil_append]
      refine f_done ?_
      refine f_tn (kh8 _ _ ?_)
      clear kh8
      refine f_seq fun K9 kh9 => ?_
      refine f_region ?_
      refine f_stepP rfl rfl rfl (o_move rfl) ?_
      refine f_stepP rfl rfl rfl (o_assign rfl) ?_
      refine f_done ?_
      refine f_tn (kh9 _ _ ?_)
      clear kh9
      refine f_ret ?_
      exact f_fin1 [(netSegs A bn bd bm ents clk tv mt G).flatten, m2] Try.results21 rfl (Sub.flat2 (by repeat (first | exact Sub.nil | refine Sub.pick ?_))) ⟨_, _, rfl, NetRep.mk hA, by rw [hln] at ho2 ⊢; exact ho2⟩

end Go.Proofs.Ytbkneamjpiiepaa
