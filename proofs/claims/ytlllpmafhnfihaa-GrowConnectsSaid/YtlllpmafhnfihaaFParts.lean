/- graph.Parts: the labels of what is connected. -/
import Derived.Test.YtlllpmafhnfihaaFGraph
import Derived.Test.YtlllpmafhnfihaaPParts
namespace Go.Proofs.Ytlllpmafhnfihaa
open Go Go.RowKit Fly
set_option linter.unusedVariables false
set_option linter.unusedSimpArgs false


abbrev upSegs (bu bx : Nat) (up : List Nat) : List Seg := [[(bu, blk (nats up) 3)], [(bx, blk [.slice (some ⟨bu, 0, none⟩) up.length up.length] 28)]]

set_option maxRecDepth 100000 in
set_option maxHeartbeats 4000000 in
theorem root_spec (bu bx : Nat) (up : List Nat) (v : Nat) (w : World) (ho : Owns w (upSegs bu bx up)) (hd : Down up) (hv : v < up.length) (hn : up.length ≤ 1000000) :
    Meets Try.prog 37 [.int .i64 (v : Int), .pointer (some ⟨bx, 0, none⟩)] w (upSegs bu bx up)
      (fun u own' => u = .int .i64 (rootOf up v : Int) ∧ ∃ up', own' = upSegs bu bx up' ∧ up'.length = up.length ∧ Down up' ∧ ∀ x, rootOf up' x = rootOf up x) := by
  refine f_enter Try.func37 rfl Try.ntmps37 rfl ho ?_
  unfold upSegs
  refine f_seq fun K1 kh1 => ?_
  refine f_region ?_
  refine f_stepP rfl rfl rfl (o_assign rfl) ?_
  refine f_done ?_
  refine f_tn (kh1 _ _ ?_)
  clear kh1
  refine f_seq fun K2 kh2 => ?_
  refine f_block ?_
  refine f_loop (α := Nat × List Nat) [1] (fun ⟨v', up'⟩ => [(0, .int .i64 (v' : Int))]) (fun ⟨v', up'⟩ => [[(bu, blk (nats up') 3)], [(bx, blk [.slice (some ⟨bu, 0, none⟩) up.length up.length] 28)]]) (fun ⟨v', up'⟩ => up'.length = up.length ∧ v' < up'.length ∧ Down up' ∧ (∀ x, rootOf up' x = rootOf up x) ∧ rootOf up v' = rootOf up v) (fun ⟨v', up'⟩ => v') (v, up) ?_ ?_ ?_ ?_
  · exact (by repeat (first | exact trivial | refine ⟨rfl, ?_⟩))
  · repeat (first | exact Sub.nil | refine Sub.pick ?_ | refine Sub.castO rfl ?_ | refine Sub.skip ?_)
  · exact ⟨rfl, hv, hd, fun _ => rfl, rfl⟩
  · rintro ⟨v', up'⟩ ⟨hl', hv', hd', hr', hrv⟩
    have hle := hd' v' hv'
    have h2 : up'[v'] < up'.length := by omega
    have hle2 := hd' _ h2
    refine f_seq fun K3 kh3 => ?_
    refine f_seq fun K4 kh4 => ?_
    refine f_region ?_
    refine f_stepP rfl rfl rfl (o_load Try.isAgg28 rfl (rdA rfl)) ?_
    refine f_stepP rfl rfl rfl (o_move rfl) ?_
    refine f_stepP rfl rfl rfl (o_idx sl28 rfl rfl (v') ⟨by omega, by omega, by first | omega | (simp; done) | (simp; omega)⟩) ?_
    refine f_stepP rfl rfl rfl (o_load Try.isAgg3 rfl (rdA (nats_get hv'))) ?_
    refine f_stepP rfl rfl rfl (o_move rfl) ?_
    refine f_stepP rfl rfl rfl (o_neq rfl rfl) ?_
    refine f_done ?_
    refine f_tn (kh4 _ _ ?_)
    clear kh4
    refine f_cond rfl (fun c9 => ?_) (fun c9 => ?_)
    · skip
      refine f_skip ?_
      refine f_tn (kh3 _ _ ?_)
      clear kh3
      refine f_block ?_
      refine f_seq fun K5 kh5 => ?_
      refine f_regionT 10 rfl (by decide +kernel) ?_
      refine f_stillP rfl rfl rfl (o_load Try.isAgg28 rfl (rdA rfl)) ?_
      refine f_stillP rfl rfl rfl (o_move rfl) ?_
      refine f_stillP rfl rfl rfl (o_load Try.isAgg28 rfl (rdA rfl)) ?_
      refine f_stillP rfl rfl rfl (o_load Try.isAgg28 rfl (rdA rfl)) ?_
      refine f_stillP rfl rfl rfl (o_move rfl) ?_
      refine f_stillP rfl rfl rfl (o_idx sl28 rfl rfl (v') ⟨by omega, by omega, by first | omega | (simp; done) | (simp; omega)⟩) ?_
      refine f_stillP rfl rfl rfl (o_load Try.isAgg3 rfl (rdA (nats_get hv'))) ?_
      refine f_stillP rfl rfl rfl (o_idx sl28 rfl rfl (up'[v']) ⟨by omega, by omega, by first | omega | (simp; done) | (simp; omega)⟩) ?_
      refine f_stillP rfl rfl rfl (o_load Try.isAgg3 rfl (rdA (nats_get h2))) ?_
      refine f_stillP rfl rfl rfl (o_idx sl28 rfl rfl (v') ⟨by omega, by omega, by first | omega | (simp; done) | (simp; omega)⟩) ?_
      refine f_stillD (f_tail ?_)
      refine f_step0 rfl rfl (o_store Try.sizeOf3 rfl rfl rfl rfl (by rw [nats_length]; omega) (nats (up'.set v' up'[up'[v']])) (nats_set _ _ _) ?_)
      refine f_done ?_
      refine f_tn (kh5 _ _ ?_)
      clear kh5
      refine f_region ?_
      refine f_stepP rfl rfl rfl (o_load Try.isAgg28 rfl (rdA rfl)) ?_
      refine f_stepP rfl rfl rfl (o_move rfl) ?_
      refine f_stepP rfl rfl rfl (o_idx sl28 rfl rfl (v') ⟨by omega, by omega, by first | omega | (simp; done) | (simp; omega)⟩) ?_
      refine f_stepP rfl rfl rfl (o_load Try.isAgg3 rfl (rdA (nats_set_get hv'))) ?_
      refine f_stepP rfl rfl rfl (o_assign rfl) ?_
      refine f_done ?_
      refine f_bn ?_
      refine f_tn (f_again (up'[up'[v']], up'.set v' up'[up'[v']]) (by first | omega | (dsimp only; omega) | (simp; omega)) ⟨by simp [hl'], by simp; omega, down_halve hd' hv' h2, fun x => by rw [rootOf_halve hd' hv' h2]; exact hr' x, by rw [← hrv, ← hr', ← hr', rootOf_two hd' hv' h2]⟩ ?_ ?_ ?_)
      · exact (by repeat (first | exact trivial | refine ⟨rfl, ?_⟩))
      · exact (by repeat (first | exact trivial | refine ⟨rfl, ?_⟩))
      · repeat (first | exact Sub.nil | refine Sub.pick ?_ | refine Sub.castO rfl ?_ | refine Sub.skip ?_)
    · skip
      refine f_exit ?_
      refine f_te ?_
      clear kh3
      refine f_te ?_
      refine f_be ?_
      refine f_tn (kh2 _ _ ?_)
      clear kh2
      refine f_seq fun K6 kh6 => ?_
      refine f_region ?_
      refine f_stepP rfl rfl rfl (o_move rfl) ?_
      refine f_stepP rfl rfl rfl (o_assign rfl) ?_
      refine f_done ?_
      refine f_tn (kh6 _ _ ?_)
      clear kh6
      refine f_ret ?_
      exact f_fin1 (upSegs bu bx up') Try.results37 rfl (by unfold upSegs; rw [hl']; exact Sub.refl) ⟨by rw [← hrv, ← hr', rootOf_stay hv' (by omega)], up', rfl, hl', hd', hr'⟩

set_option maxRecDepth 100000 in
set_option maxHeartbeats 4000000 in
theorem Parts_spec (N : Int) (A : Option Addr) (l : List Arc) (cap : Nat) (w : World) (hr : Ro (Fr w []) w A (l.flatMap arcCs)) (hl : l.length ≤ 9223372036854775807) (hN : I64 N) (hok : ∀ x ∈ l, ArcOk x) :
    Meets Try.prog 20 [.agg #[.int .i64 N, .slice A l.length cap]] w []
      (fun u own' => if (gcheck N l).2 = 0 then ∃ p b, u = .tuple #[.slice (some ⟨b, 0, none⟩) N.toNat N.toNat, .int .i64 0] ∧ own' = [[(b, blk (nats p) 3)]] ∧ IsParts N.toNat (ends2 l) p
        else u = .tuple #[.slice none 0 0, .int .i64 (gcheck N l).2] ∧ own' = []) := by
  refine f_enter Try.func20 rfl Try.ntmps20 rfl Owns.nil ?_
  refine f_seq fun K1 kh1 => ?_
  refine f_region ?_
  refine f_step rfl rfl rfl (o_box rfl rfl fun b1 => ?_)
  refine f_stepP rfl rfl rfl (o_assign rfl) ?_
  refine f_stepP rfl rfl rfl (o_assign rfl) ?_
  refine f_done ?_
  refine f_tn (kh1 _ _ ?_)
  clear kh1
  refine f_seq fun K2 kh2 => ?_
  refine f_seq fun K3 kh3 => ?_
  refine f_region ?_
  refine f_stepP rfl rfl rfl (o_loadA (vs := [_, _]) Try.isAgg24 Try.sizeOf24 rfl rfl ⟨(rdA rfl), (rdA rfl), trivial⟩) ?_
  refine f_step rfl rfl rfl (o_call Try.call23 rfl (fun w_ hp_ => Check_spec N A l cap w_ (hr.up0 hp_) hl hN hok) ?_)
  rintro _ _ ⟨rfl, rfl⟩
  dsimp only [List.cons_append, List.nil_append]
  refine f_stepP rfl rfl rfl (o_move rfl) ?_
  refine f_stepP rfl rfl rfl (o_extract rfl rfl) ?_
  refine f_stepP rfl rfl rfl (o_extract rfl rfl) ?_
  refine f_stepP rfl rfl rfl (o_assign rfl) ?_
  refine f_stepP rfl rfl rfl (o_assign rfl) ?_
  refine f_done ?_
  refine f_tn (kh3 _ _ ?_)
  clear kh3
  refine f_seq fun K4 kh4 => ?_
  refine f_region ?_
  refine f_stepP rfl rfl rfl (o_move rfl) ?_
  refine f_stepP rfl rfl rfl (o_neq rfl rfl) ?_
  refine f_done ?_
  refine f_tn (kh4 _ _ ?_)
  clear kh4
  refine f_cond rfl (fun c23 => ?_) (fun c23 => ?_)
  · skip
    refine f_seq fun K5 kh5 => ?_
    refine f_region ?_
    refine f_stepP rfl rfl rfl (o_move rfl) ?_
    refine f_stepP rfl rfl rfl (o_assign rfl) ?_
    refine f_stepP rfl rfl rfl (o_assign rfl) ?_
    refine f_done ?_
    refine f_tn (kh5 _ _ ?_)
    clear kh5
    refine f_ret ?_
    refine f_tr ?_
    exact f_fin2 [] Try.results20 rfl rfl Sub.nil (by rw [if_neg (by simpa using c23)]; exact ⟨rfl, rfl⟩)
  · skip
    have hc0 : (gcheck N l).2 = 0 := by simpa using c23
    obtain ⟨hN1, hN2, hlen, hgood⟩ := gcheck_zero hc0
    obtain ⟨n, rfl⟩ : ∃ n : Nat, N = n := ⟨N.toNat, by omega⟩
    clear c23
    refine f_skip ?_
    refine f_tn (kh2 _ _ ?_)
    clear kh2
    refine f_seq fun K6 kh6 => ?_
    refine f_region ?_
    refine f_stepP rfl rfl rfl (o_field fa24_0 rfl) ?_
    refine f_stepP rfl rfl rfl (o_load Try.isAgg3 rfl (rdA rfl)) ?_
    refine f_step rfl rfl rfl (o_make el28 rfl rfl n rfl (by omega) (by omega) (nats (List.replicate n 0)) (nats_replicate n) fun b27 => ?_)
    refine f_step rfl rfl rfl (o_alloc Try.zeroValue28 rfl fun b6 => ?_)
    refine f_step0 rfl rfl (o_store Try.sizeOf28 rfl rfl rfl rfl (by first | exact Nat.le_of_ble_eq_true rfl | (simp; done) | (simp; omega)) _ rfl ?_)
    refine f_done ?_
    refine f_tn (kh6 _ _ ?_)
    clear kh6
    refine f_seq fun K7 kh7 => ?_
    refine f_seq fun K8 kh8 => ?_
    refine f_region ?_
    refine f_stepP rfl rfl rfl (o_load Try.isAgg28 rfl (rdA rfl)) ?_
    refine f_stepP rfl rfl rfl (o_len sl28 rfl) ?_
    refine f_stepP rfl rfl rfl (o_move rfl) ?_
    refine f_done ?_
    refine f_tn (kh8 _ _ ?_)
    clear kh8
    refine f_block ?_
    refine f_loop (α := Nat × List Nat) [1, 6, 29] (fun ⟨k, up⟩ => [(30, .int .i64 (k : Int))]) (fun ⟨k, up⟩ => [[(b27, blk (nats up) 3)], [(b6, blk [.slice (some ⟨b27, 0, none⟩) n n] 28)], [(b1, blk [.int .i64 (n : Int), .slice A l.length cap] 24)]]) (fun ⟨k, up⟩ => k ≤ n ∧ up.length = n ∧ ∀ j (h : j < up.length), j < k → up[j] = j) (fun ⟨k, up⟩ => n - k) (0, List.replicate n 0) ?_ ?_ ?_ ?_
    · exact (by repeat (first | exact trivial | refine ⟨rfl, ?_⟩))
    · repeat (first | exact Sub.nil | refine Sub.pick ?_ | refine Sub.castO rfl ?_ | refine Sub.skip ?_)
    · exact ⟨by omega, by simp, fun j _ h => by omega⟩
    · rintro ⟨k, up⟩ ⟨hkn, hul, hup⟩
      refine f_seq fun K9 kh9 => ?_
      refine f_region ?_
      refine f_stepP rfl rfl rfl (o_lss rfl rfl) ?_
      refine f_done ?_
      refine f_tn (kh9 _ _ ?_)
      clear kh9
      refine f_seq fun K10 kh10 => ?_
      refine f_cond rfl (fun c31 => ?_) (fun c31 => ?_)
      · skip
        refine f_skip ?_
        refine f_tn (kh10 _ _ ?_)
        clear kh10
        refine f_seq fun K11 kh11 => ?_
        refine f_block ?_
        refine f_seq fun K12 kh12 => ?_
        refine f_region ?_
        refine f_stepP rfl rfl rfl (o_move rfl) ?_
        refine f_stepP rfl rfl rfl (o_assign rfl) ?_
        refine f_done ?_
        refine f_tn (kh12 _ _ ?_)
        clear kh12
        refine f_region ?_
        refine f_stepP rfl rfl rfl (o_load Try.isAgg28 rfl (rdA rfl)) ?_
        refine f_stepP rfl rfl rfl (o_move rfl) ?_
        refine f_stepP rfl rfl rfl (o_move rfl) ?_
        have hk : k < n := by omega
        refine f_stepP rfl rfl rfl (o_idx sl28 rfl rfl (k) ⟨by omega, by omega, by first | omega | (simp; done) | (simp; omega)⟩) ?_
        refine f_step0 rfl rfl (o_store Try.sizeOf3 rfl rfl rfl rfl (by rw [nats_length]; omega) (nats (up.set k k)) (nats_set _ _ _) ?_)
        refine f_done ?_
        refine f_bn ?_
        refine f_tn (kh11 _ _ ?_)
        clear kh11
        refine f_region ?_
        refine f_stepP rfl rfl rfl (o_add rfl rfl _ (wrap_i64 (by omega))) ?_
        refine f_stepP rfl rfl rfl (o_move rfl) ?_
        refine f_done ?_
        refine f_tn (f_again (k + 1, up.set k k) (by first | omega | (dsimp only; omega) | (simp; omega)) ⟨by omega, by simp [hul], fun j h hj => by rw [List.getElem_set]; split <;> first | assumption | exact hup j (by simpa using h) (by omega)⟩ ?_ ?_ ?_)
        · exact (by repeat (first | exact trivial | refine ⟨rfl, ?_⟩))
        · exact (by repeat (first | exact trivial | refine ⟨rfl, ?_⟩))
        · repeat (first | exact Sub.nil | refine Sub.pick ?_ | refine Sub.castO rfl ?_ | refine Sub.skip ?_)
      · skip
        refine f_exit ?_
        refine f_te ?_
        clear kh10
        refine f_te ?_
        refine f_be ?_
        refine f_tn (kh7 _ _ ?_)
        clear kh7
        refine f_seq fun K13 kh13 => ?_
        refine f_region ?_
        refine f_stepP rfl rfl rfl (o_func rfl rfl) ?_
        refine f_stepP rfl rfl rfl (o_assign rfl) ?_
        refine f_done ?_
        refine f_tn (kh13 _ _ ?_)
        clear kh13
        refine f_seq fun K14 kh14 => ?_
        refine f_seq fun K15 kh15 => ?_
        refine f_region ?_
        refine f_stepP rfl rfl rfl (o_field fa24_1 rfl) ?_
        refine f_stepP rfl rfl rfl (o_load Try.isAgg22 rfl (rdA rfl)) ?_
        refine f_stepP rfl rfl rfl (o_len sl22 rfl) ?_
        refine f_stepP rfl rfl rfl (o_move rfl) ?_
        refine f_done ?_
        refine f_tn (kh15 _ _ ?_)
        clear kh15
        refine f_block ?_
        refine f_loop (α := Nat × List Nat) [1, 6, 8, 40, 41] (fun ⟨k, up⟩ => [(42, .int .i64 (k : Int))]) (fun ⟨k, up⟩ => [[(b27, blk (nats up) 3)], [(b6, blk [.slice (some ⟨b27, 0, none⟩) n n] 28)], [(b1, blk [.int .i64 (n : Int), .slice A l.length cap] 24)]]) (fun ⟨k, up⟩ => k ≤ l.length ∧ up.length = n ∧ Down up ∧ Tells up (ends2 (l.take k))) (fun ⟨k, up⟩ => l.length - k) (0, up) ?_ ?_ ?_ ?_
        · exact (by repeat (first | exact trivial | refine ⟨rfl, ?_⟩))
        · repeat (first | exact Sub.nil | refine Sub.pick ?_ | refine Sub.castO rfl ?_ | refine Sub.skip ?_)
        · exact ⟨by omega, hul, by have := up_range hul (fun j h => hup j h (by omega)); subst this; exact down_range n, by have := up_range hul (fun j h => hup j h (by omega)); subst this; exact tells_start n⟩
        · rintro ⟨k, up⟩ ⟨hkl, hul, hd, ht⟩
          refine f_envC (e := [(42, _), (1, _), (6, _), (8, _), (40, _), (41, _)]) (by repeat (first | exact trivial | refine ⟨rfl, ?_⟩)) ?_
          refine f_seq fun K16 kh16 => ?_
          refine f_region ?_
          refine f_stepP rfl rfl rfl (o_lss rfl rfl) ?_
          refine f_done ?_
          refine f_tn (kh16 _ _ ?_)
          clear kh16
          refine f_seq fun K17 kh17 => ?_
          refine f_cond rfl (fun c43 => ?_) (fun c43 => ?_)
          · skip
            refine f_skip ?_
            refine f_tn (kh17 _ _ ?_)
            clear kh17
            refine f_seq fun K18 kh18 => ?_
            refine f_block ?_
            refine f_seq fun K19 kh19 => ?_
            refine f_region ?_
            have hk : k < l.length := by omega
            obtain ⟨bl, off, rfl, hS, hc⟩ := hr (flat_ne arcCs arcCs_len (by omega) hk)
            obtain ⟨hs0, hs1, hd0, hd1'⟩ := hgood k hk
            have hsr : l[k].src.toNat < up.length := by omega
            have hsd : l[k].dst.toNat < up.length := by omega
            have hun : up.length ≤ 1000000 := by omega
            have esr : l[k].src = (l[k].src.toNat : Int) := by omega
            have esd : l[k].dst = (l[k].dst.toNat : Int) := by omega
            refine f_stepP rfl rfl rfl (o_idx sl22 rfl rfl (off + k * 3) ⟨by omega, by omega, by first | omega | (simp; done) | (simp; omega)⟩) ?_
            refine f_stepP rfl rfl rfl (o_loadA (vs := arcCs l[k]) Try.isAgg44 Try.sizeOf44 rfl rfl (roElem arcCs_len hS hc hk)) ?_
            refine f_step rfl rfl rfl (o_alloc Try.zeroValue44 rfl fun b10 => ?_)
            refine f_step0 rfl rfl (o_storeA Try.sizeOf44 rfl rfl rfl rfl (by first | exact Nat.le_of_ble_eq_true rfl | (simp; done) | (simp; omega)) _ rfl ?_)
            refine f_done ?_
            refine f_tn (kh19 _ _ ?_)
            clear kh19
            refine f_seq fun K20 kh20 => ?_
            refine f_regionH [[(b10, blk (arcCs l[k]) 44)]] rfl ?_
            refine f_take 0 rfl (by decide +kernel) rfl rfl rfl (by repeat (first | exact Sub.nil | refine Sub.pick ?_ | refine Sub.castO rfl ?_ | refine Sub.skip ?_)) (o_move rfl) ?_
            refine f_take 1 rfl (by decide +kernel) rfl rfl rfl (by repeat (first | exact Sub.nil | refine Sub.pick ?_ | refine Sub.castO rfl ?_ | refine Sub.skip ?_)) (o_field fa44_0 rfl) ?_
            refine f_take 2 rfl (by decide +kernel) rfl rfl rfl (by repeat (first | exact Sub.nil | refine Sub.pick ?_ | refine Sub.castO rfl ?_ | refine Sub.skip ?_)) (o_load (v := .int .i64 (l[k].src.toNat : Int)) Try.isAgg3 rfl (rdA (by rw [← esr]; rfl))) ?_
            refine f_take 4 rfl (by decide +kernel) rfl rfl rfl (by repeat (first | exact Sub.nil | refine Sub.pick ?_ | refine Sub.castO rfl ?_ | refine Sub.skip ?_)) (o_move rfl) ?_
            refine f_take 5 rfl (by decide +kernel) rfl rfl rfl (by repeat (first | exact Sub.nil | refine Sub.pick ?_ | refine Sub.castO rfl ?_ | refine Sub.skip ?_)) (o_field fa44_1 rfl) ?_
            refine f_take 6 rfl (by decide +kernel) rfl rfl rfl (by repeat (first | exact Sub.nil | refine Sub.pick ?_ | refine Sub.castO rfl ?_ | refine Sub.skip ?_)) (o_load (v := .int .i64 (l[k].dst.toNat : Int)) Try.isAgg3 rfl (rdA (by rw [← esd]; rfl))) ?_
            refine f_only 3 rfl (by decide +kernel) rfl rfl rfl (o_callV (upSegs b27 b6 up) _ Try.call37 rfl rfl (by unfold upSegs; rw [hul]; exact Sub.pick (Sub.pick Sub.refl)) (fun w_ hp_ => root_spec b27 b6 up _ w_ hp_.owns hd hsr hun) ?_)
            rintro _ _ ⟨rfl, up1, rfl, hl1, hd1, hr1⟩
            unfold upSegs
            rw [hl1, hul]
            dsimp only [List.cons_append, List.nil_append]
            refine ⟨(by repeat (first | exact Sub.nil | refine Sub.pick ?_ | refine Sub.castO rfl ?_ | refine Sub.skip ?_)), ?_⟩
            refine f_only 7 rfl (by decide +kernel) rfl rfl rfl (o_callV (upSegs b27 b6 up1) _ Try.call37 rfl rfl (by unfold upSegs; rw [hl1, hul]; exact Sub.pick (Sub.pick Sub.refl)) (fun w_ hp_ => root_spec b27 b6 up1 _ w_ hp_.owns hd1 (hl1 ▸ hsd) (hl1 ▸ hun)) ?_)
            rintro _ _ ⟨rfl, up2, rfl, hl2, hd2, hr2⟩
            unfold upSegs
            rw [hl2, hl1, hul]
            dsimp only [List.cons_append, List.nil_append]
            refine ⟨(by repeat (first | exact Sub.nil | refine Sub.pick ?_ | refine Sub.castO rfl ?_ | refine Sub.skip ?_)), ?_⟩
            refine f_only 8 rfl (by decide +kernel) rfl rfl rfl ((o_assign rfl).does ⟨(by repeat (first | exact Sub.nil | refine Sub.pick ?_ | refine Sub.castO rfl ?_ | refine Sub.skip ?_)), ?_⟩)
            refine f_only 9 rfl (by decide +kernel) rfl rfl rfl ((o_assign rfl).does ⟨(by repeat (first | exact Sub.nil | refine Sub.pick ?_ | refine Sub.castO rfl ?_ | refine Sub.skip ?_)), ?_⟩)
            refine f_over (by decide +kernel) ?_
            refine f_tn (kh20 _ _ ?_)
            clear kh20
            refine f_region ?_
            refine f_stepP rfl rfl rfl (o_load Try.isAgg28 rfl (rdA rfl)) ?_
            refine f_stepP rfl rfl rfl (o_move rfl) ?_
            refine f_stepP rfl rfl rfl (o_move rfl) ?_
            refine f_stepP rfl rfl rfl (o_max rfl rfl) ?_
            refine f_stepP rfl rfl rfl (o_move rfl) ?_
            refine f_stepP rfl rfl rfl (o_move rfl) ?_
            refine f_stepP rfl rfl rfl (o_min rfl rfl) ?_
            have e1 := hr1 l[k].dst.toNat
            have q1 := rootOf_le (up := up) l[k].src.toNat
            have q2 := rootOf_le (up := up) l[k].dst.toNat
            refine f_stepP rfl rfl rfl (o_idx sl28 rfl rfl (max (rootOf up l[k].src.toNat) (rootOf up l[k].dst.toNat)) ⟨by omega, by omega, by first | omega | (simp; done) | (simp; omega)⟩) ?_
            refine f_step0 rfl rfl (o_store Try.sizeOf3 rfl rfl rfl rfl (by rw [nats_length]; omega) (nats (up2.set (max (rootOf up l[k].src.toNat) (rootOf up l[k].dst.toNat)) (min (rootOf up l[k].src.toNat) (rootOf up l[k].dst.toNat)))) (by rw [← nats_set]; congr 2; omega) ?_)
            refine f_done ?_
            refine f_bn ?_
            refine f_tn (kh18 _ _ ?_)
            clear kh18
            refine f_region ?_
            refine f_stepP rfl rfl rfl (o_add rfl rfl _ (wrap_i64 (by omega))) ?_
            refine f_stepP rfl rfl rfl (o_move rfl) ?_
            refine f_done ?_
            refine f_tn (f_again (k + 1, up2.set (max (rootOf up l[k].src.toNat) (rootOf up l[k].dst.toNat)) (min (rootOf up l[k].src.toNat) (rootOf up l[k].dst.toNat))) (by first | omega | (dsimp only; omega) | (simp; omega)) ⟨by omega, by simp [hl2, hl1, hul], down_join hd2, by rw [ends2_take hk]; exact tells_next hd hd2 ht (hl2.trans hl1) (fun x => (hr2 x).trans (hr1 x)) (ends2_lt hul hgood k) hsr hsd⟩ ?_ ?_ ?_)
            · exact (by repeat (first | exact trivial | refine ⟨rfl, ?_⟩))
            · exact (by repeat (first | exact trivial | refine ⟨rfl, ?_⟩))
            · repeat (first | exact Sub.nil | refine Sub.pick ?_ | refine Sub.castO rfl ?_ | refine Sub.skip ?_)
          · skip
            refine f_exit ?_
            refine f_te ?_
            clear kh17
            refine f_te ?_
            refine f_be ?_
            refine f_tn (kh14 _ _ ?_)
            clear kh14
            refine f_seq fun K21 kh21 => ?_
            refine f_region ?_
            refine f_stepP rfl rfl rfl (o_field fa24_0 rfl) ?_
            refine f_stepP rfl rfl rfl (o_load Try.isAgg3 rfl (rdA rfl)) ?_
            refine f_step rfl rfl rfl (o_make el28 rfl rfl n rfl (by omega) (by omega) (nats (List.replicate n 0)) (nats_replicate n) fun b65 => ?_)
            refine f_stepP rfl rfl rfl (o_assign rfl) ?_
            refine f_done ?_
            refine f_tn (kh21 _ _ ?_)
            clear kh21
            refine f_seq fun K22 kh22 => ?_
            refine f_region ?_
            refine f_stepP rfl rfl rfl (o_assign rfl) ?_
            refine f_done ?_
            refine f_tn (kh22 _ _ ?_)
            clear kh22
            refine f_seq fun K23 kh23 => ?_
            refine f_seq fun K24 kh24 => ?_
            refine f_region ?_
            refine f_stepP rfl rfl rfl (o_move rfl) ?_
            refine f_stepP rfl rfl rfl (o_len sl28 rfl) ?_
            refine f_stepP rfl rfl rfl (o_move rfl) ?_
            refine f_done ?_
            refine f_tn (kh24 _ _ ?_)
            clear kh24
            refine f_block ?_
            refine f_loop (α := Nat × List Nat × List Nat × Nat) [8, 13, 67] (fun ⟨k, up, out, nx⟩ => [(68, .int .i64 (k : Int)), (14, .int .i64 (nx : Int))]) (fun ⟨k, up, out, nx⟩ => [[(b27, blk (nats up) 3)], [(b6, blk [.slice (some ⟨b27, 0, none⟩) n n] 28)], [(b1, blk [.int .i64 (n : Int), .slice A l.length cap] 24)], [(b65, blk (nats out) 3)]]) (fun ⟨k, up, out, nx⟩ => k ≤ n ∧ up.length = n ∧ Down up ∧ Tells up (ends2 l) ∧ Labelled up k out nx) (fun ⟨k, up, out, nx⟩ => n - k) (0, up, List.replicate n 0, 0) ?_ ?_ ?_ ?_
            · exact (by repeat (first | exact trivial | refine ⟨rfl, ?_⟩))
            · repeat (first | exact Sub.nil | refine Sub.pick ?_ | refine Sub.castO rfl ?_ | refine Sub.skip ?_)
            · exact ⟨by omega, hul, hd, by rw [show l.take k = l from List.take_of_length_le (by omega)] at ht; exact ht, by have := labelled_start up; rw [hul] at this; exact this⟩
            · rintro ⟨k, up, out, nx⟩ ⟨hkn, hul, hd, ht, hlab⟩
              have hol := hlab.len
              have hnx : nx ≤ k := by rw [← hlab.next]; exact nxt_le out k
              refine f_envC (e := [(68, _), (14, _), (8, _), (13, _), (67, _)]) (by repeat (first | exact trivial | refine ⟨rfl, ?_⟩)) ?_
              refine f_seq fun K25 kh25 => ?_
              refine f_region ?_
              refine f_stepP rfl rfl rfl (o_lss rfl rfl) ?_
              refine f_done ?_
              refine f_tn (kh25 _ _ ?_)
              clear kh25
              refine f_seq fun K26 kh26 => ?_
              refine f_cond rfl (fun c69 => ?_) (fun c69 => ?_)
              · skip
                refine f_skip ?_
                refine f_tn (kh26 _ _ ?_)
                clear kh26
                refine f_seq fun K27 kh27 => ?_
                refine f_block ?_
                refine f_seq fun K28 kh28 => ?_
                refine f_region ?_
                refine f_stepP rfl rfl rfl (o_move rfl) ?_
                refine f_stepP rfl rfl rfl (o_assign rfl) ?_
                refine f_done ?_
                refine f_tn (kh28 _ _ ?_)
                clear kh28
                refine f_seq fun K29 kh29 => ?_
                refine f_seq fun K30 kh30 => ?_
                refine f_region ?_
                refine f_stepP rfl rfl rfl (o_move rfl) ?_
                refine f_stepP rfl rfl rfl (o_move rfl) ?_
                have hk' : k < up.length := by omega
                refine f_step rfl rfl rfl (o_callV (upSegs b27 b6 up) _ Try.call37 rfl rfl (by unfold upSegs; rw [hul]; exact Sub.pick (Sub.pick Sub.refl)) (fun w_ hp_ => root_spec b27 b6 up k w_ hp_.owns hd hk' (by omega)) ?_)
                rintro _ _ ⟨rfl, up1, rfl, hl1, hd1, hr1⟩
                unfold upSegs
                rw [hl1, hul]
                dsimp only [List.cons_append, List.nil_append]
                refine f_stepP rfl rfl rfl (o_assign rfl) ?_
                refine f_done ?_
                refine f_tn (kh30 _ _ ?_)
                clear kh30
                refine f_seq fun K31 kh31 => ?_
                refine f_region ?_
                refine f_stepP rfl rfl rfl (o_move rfl) ?_
                refine f_stepP rfl rfl rfl (o_move rfl) ?_
                refine f_stepP rfl rfl rfl (o_neq rfl rfl) ?_
                refine f_done ?_
                refine f_tn (kh31 _ _ ?_)
                clear kh31
                refine f_cond rfl (fun c76 => ?_) (fun c76 => ?_)
                · skip
                  refine f_seq fun K32 kh32 => ?_
                  refine f_region ?_
                  refine f_stepP rfl rfl rfl (o_move rfl) ?_
                  refine f_stepP rfl rfl rfl (o_move rfl) ?_
                  refine f_stepP rfl rfl rfl (o_move rfl) ?_
                  refine f_stepP rfl rfl rfl (o_move rfl) ?_
                  have hro : rootOf up k < out.length := by have := rootOf_le (up := up) k; omega
                  refine f_stepP rfl rfl rfl (o_idx sl28 rfl rfl (rootOf up k) ⟨by omega, by omega, by first | omega | (simp; done) | (simp; omega)⟩) ?_
                  refine f_stepP rfl rfl rfl (o_load Try.isAgg3 rfl (rdA (nats_get hro))) ?_
                  refine f_stepP rfl rfl rfl (o_idx sl28 rfl rfl (k) ⟨by omega, by omega, by first | omega | (simp; done) | (simp; omega)⟩) ?_
                  refine f_step0 rfl rfl (o_store Try.sizeOf3 rfl rfl rfl rfl (by rw [nats_length]; omega) (nats (out.set k out[rootOf up k])) (nats_set _ _ _) ?_)
                  refine f_done ?_
                  refine f_tn (kh32 _ _ ?_)
                  clear kh32
                  refine f_exit ?_
                  refine f_te ?_
                  clear kh29
                  refine f_be ?_
                  refine f_tn (kh27 _ _ ?_)
                  clear kh27
                  refine f_region ?_
                  refine f_stepP rfl rfl rfl (o_add rfl rfl _ (wrap_i64 (by omega))) ?_
                  refine f_stepP rfl rfl rfl (o_move rfl) ?_
                  refine f_done ?_
                  refine f_tn (f_again (k + 1, up1, out.set k out[rootOf up k], nx) (by first | omega | (dsimp only; omega) | (simp; omega)) ⟨by omega, hl1.trans hul, hd1, tells_roots ht hl1 hr1, by exact labelled_roots (labelled_old hd hlab hk' (by omega) hro) hl1 hr1⟩ ?_ ?_ ?_)
                  · exact (by repeat (first | exact trivial | refine ⟨rfl, ?_⟩))
                  · exact (by repeat (first | exact trivial | refine ⟨rfl, ?_⟩))
                  · repeat (first | exact Sub.nil | refine Sub.pick ?_ | refine Sub.castO rfl ?_ | refine Sub.skip ?_)
                · skip
                  refine f_skip ?_
                  refine f_tn (kh29 _ _ ?_)
                  clear kh29
                  refine f_seq fun K33 kh33 => ?_
                  refine f_region ?_
                  refine f_stepP rfl rfl rfl (o_move rfl) ?_
                  refine f_stepP rfl rfl rfl (o_move rfl) ?_
                  refine f_stepP rfl rfl rfl (o_move rfl) ?_
                  refine f_stepP rfl rfl rfl (o_idx sl28 rfl rfl (k) ⟨by omega, by omega, by first | omega | (simp; done) | (simp; omega)⟩) ?_
                  refine f_step0 rfl rfl (o_store Try.sizeOf3 rfl rfl rfl rfl (by rw [nats_length]; omega) (nats (out.set k nx)) (nats_set _ _ _) ?_)
                  refine f_done ?_
                  refine f_tn (kh33 _ _ ?_)
                  clear kh33
                  refine f_region ?_
                  refine f_stepP rfl rfl rfl (o_move rfl) ?_
                  refine f_stepP rfl rfl rfl (o_add rfl rfl _ (wrap_i64 (by omega))) ?_
                  refine f_stepP rfl rfl rfl (o_assign rfl) ?_
                  refine f_done ?_
                  refine f_bn ?_
                  refine f_tn (kh27 _ _ ?_)
                  clear kh27
                  refine f_region ?_
                  refine f_stepP rfl rfl rfl (o_add rfl rfl _ (wrap_i64 (by omega))) ?_
                  refine f_stepP rfl rfl rfl (o_move rfl) ?_
                  refine f_done ?_
                  refine f_tn (f_again (k + 1, up1, out.set k nx, nx + 1) (by first | omega | (dsimp only; omega) | (simp; omega)) ⟨by omega, hl1.trans hul, hd1, tells_roots ht hl1 hr1, by exact labelled_roots (labelled_new hd hlab hk' (by omega)) hl1 hr1⟩ ?_ ?_ ?_)
                  · exact (by repeat (first | exact trivial | refine ⟨rfl, ?_⟩))
                  · exact (by repeat (first | exact trivial | refine ⟨rfl, ?_⟩))
                  · repeat (first | exact Sub.nil | refine Sub.pick ?_ | refine Sub.castO rfl ?_ | refine Sub.skip ?_)
              · skip
                refine f_exit ?_
                refine f_te ?_
                clear kh26
                refine f_te ?_
                refine f_be ?_
                refine f_tn (kh23 _ _ ?_)
                clear kh23
                refine f_seq fun K34 kh34 => ?_
                refine f_region ?_
                refine f_stepP rfl rfl rfl (o_move rfl) ?_
                refine f_stepP rfl rfl rfl (o_assign rfl) ?_
                refine f_stepP rfl rfl rfl (o_assign rfl) ?_
                refine f_done ?_
                refine f_tn (kh34 _ _ ?_)
                clear kh34
                refine f_ret ?_
                exact f_fin2 [[(b65, blk (nats out) 3)]] Try.results20 rfl rfl (by repeat (first | exact Sub.nil | refine Sub.pick ?_ | refine Sub.cast rfl ?_)) (by rw [if_pos hc0]; exact ⟨out, b65, rfl, rfl, parts_end hul hlab ht (by omega)⟩)

end Go.Proofs.Ytlllpmafhnfihaa
