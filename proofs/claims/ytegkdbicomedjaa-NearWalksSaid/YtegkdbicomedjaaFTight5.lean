/- flyoverlaw05: NearTight, NearSame. -/
import Derived.Test.YtegkdbicomedjaaFLaw5
namespace Go.Proofs.Ytegkdbicomedjaa
open Go Go.RowKit Fly
set_option linter.unusedVariables false
set_option linter.unusedSimpArgs false


theorem bools_rep (b : Bool) (n : Nat) : (List.replicate n [Value.bool b]).flatten = (List.replicate n b).map .bool := by
  induction n with
  | zero => rfl
  | succ n ih => simp only [List.replicate_succ, List.flatten_cons, List.map_cons, ih]; rfl
theorem bools_set (l : List Bool) (i : Nat) (b : Bool) : (l.map Value.bool).set i (.bool b) = (l.set i b).map .bool := by rw [List.map_set]
theorem fw_get {l : List Arc} {i : Nat} (h : i < (l.map (trn false)).length) (h' : i < l.length) : (l.map (trn false))[i] = l[i] := by rw [trn_get h h']; rfl
/-- A distance is one of an arc's beginning, and its weight. -/
theorem IsD.tight {n : Nat} {e : List Arc} {p : Nat → Bool} {s : Nat} {d : List Int} (h : IsD n e p s d) {v : Nat} (hv : v < n) (hne : v ≠ s) (hlt : dg d v < INF) :
    ∃ (i : Nat) (hi : i < e.length), e[i].dst.toNat = v ∧ dg d v = dadd (dg d e[i].src.toNat) e[i].wt := by
  have hw := h.walk v hv hlt
  generalize hm : dg d v = m at hw
  cases hw with
  | nil => exact absurd rfl hne
  | @step m' i hi hp hk =>
    have h1 := h.le hk
    have h2 := h.arcs i hi hp
    refine ⟨i, hi, rfl, ?_⟩
    have e1 : m' = dg d e[i].src.toNat := by omega
    have : dadd (dg d e[i].src.toNat) e[i].wt = dg d e[i].src.toNat + e[i].wt := by unfold dadd; rw [if_neg (by omega)]
    rw [this]; omega
theorem IsD.arc {n : Nat} {e : List Arc} {p : Nat → Bool} {s : Nat} {d : List Int} (h : IsD n e p s d) {i : Nat} (hi : i < e.length) (hp : p i = true) (hd : e[i].dst.toNat < n) : dg d e[i].dst.toNat ≤ dadd (dg d e[i].src.toNat) e[i].wt := by
  have h2 := h.arcs i hi hp
  have := (h.rng _ hd).2
  unfold dadd; split <;> omega

theorem set_true {tt : List Bool} {i j : Nat} (h : tt[i]? = some true) : (tt.set j true)[i]? = some true := by
  rw [List.getElem?_set]; split
  · rename_i e; subst e; rw [if_pos (List.getElem?_eq_some_iff.1 h).1]
  · exact h
theorem tt_next {l : List Arc} {D : List Int} {tt : List Bool} {j : Nat} {hj : j < l.length} (h : ∀ i (h : i < l.length), i < j → dg D l[i].dst.toNat = dadd (dg D l[i].src.toNat) l[i].wt → tt[l[i].dst.toNat]? = some true) (hl : l[j].dst.toNat < tt.length) :
    ∀ i (h : i < l.length), i < j + 1 → dg D l[i].dst.toNat = dadd (dg D l[i].src.toNat) l[i].wt → (tt.set l[j].dst.toNat true)[l[i].dst.toNat]? = some true := fun i hi hij he => by
  by_cases e : i = j
  · subst e; rw [List.getElem?_set_self hl]
  · exact set_true (h i hi (by omega) he)
theorem tt_same {l : List Arc} {D : List Int} {tt : List Bool} {j : Nat} {hj : j < l.length} (h : ∀ i (h : i < l.length), i < j → dg D l[i].dst.toNat = dadd (dg D l[i].src.toNat) l[i].wt → tt[l[i].dst.toNat]? = some true) (hn : ¬ dg D l[j].dst.toNat = dadd (dg D l[j].src.toNat) l[j].wt) :
    ∀ i (h : i < l.length), i < j + 1 → dg D l[i].dst.toNat = dadd (dg D l[i].src.toNat) l[i].wt → tt[l[i].dst.toNat]? = some true := fun i hi hij he => by
  by_cases e : i = j
  · subst e; exact absurd he hn
  · exact h i hi (by omega) he

set_option maxRecDepth 100000 in
set_option maxHeartbeats 4000000 in
theorem NearTight_spec (N : Int) (A : Option Addr) (l : List Arc) (cap : Nat) (s : Int) (w : World) (hr : Ro (Fr w []) w A (l.flatMap arcCs)) (hl : l.length ≤ 9223372036854775807) (hN : I64 N) (hok : ∀ x ∈ l, ArcOk x) :
    Meets Try.prog 4 [.agg #[.int .i64 N, .slice A l.length cap], .int .i64 s] w [] (fun u m => u = .bool true ∧ m = []) := by
  refine f_enter Try.func4 rfl Try.ntmps4 rfl Owns.nil ?_
  refine f_seq fun K1 kh1 => ?_
  refine f_region ?_
  refine f_step rfl rfl rfl (o_box rfl rfl fun b2 => ?_)
  refine f_stepP rfl rfl rfl (o_assign rfl) ?_
  refine f_done ?_
  refine f_tn (kh1 _ _ ?_)
  clear kh1
  refine f_seq fun K2 kh2 => ?_
  refine f_seq fun K3 kh3 => ?_
  refine f_region ?_
  refine f_step rfl rfl rfl (o_call Try.call11 rfl (fun w_ hp_ => works_spec w_) ?_)
  rintro _ _ ⟨rfl, rfl⟩
  dsimp only [List.cons_append, List.nil_append]
  refine f_stepP rfl rfl rfl (o_not rfl) ?_
  refine f_done ?_
  refine f_tn (kh3 _ _ ?_)
  clear kh3
  refine f_condF rfl ?_
  refine f_skip ?_
  refine f_tn (kh2 _ _ ?_)
  clear kh2
  refine f_seq fun K4 kh4 => ?_
  refine f_region ?_
  refine f_stepP rfl rfl rfl (o_loadA (vs := [_, _]) Try.isAgg24 Try.sizeOf24 rfl rfl ⟨(rdA rfl), (rdA rfl), trivial⟩) ?_
  refine f_stepP rfl rfl rfl (o_move rfl) ?_
  refine f_step rfl rfl rfl (o_call Try.call17 rfl (fun w_ hp_ => From_spec N A l cap s w_ (hr.up0 hp_) hl hN hok) ?_)
  rintro _ _ ⟨v5, m5, D, rfl, rfl, hoD, hD1, hD0⟩
  obtain ⟨A5, c5, rfl, hc5⟩ := hoD.val
  dsimp only [List.cons_append, List.nil_append]
  refine f_stepP rfl rfl rfl (o_move rfl) ?_
  refine f_stepP rfl rfl rfl (o_extract rfl rfl) ?_
  refine f_stepP rfl rfl rfl (o_extract rfl rfl) ?_
  refine f_stepP rfl rfl rfl (o_assign rfl) ?_
  refine f_stepP rfl rfl rfl (o_assign rfl) ?_
  refine f_done ?_
  refine f_tn (kh4 _ _ ?_)
  clear kh4
  refine f_seq fun K5 kh5 => ?_
  refine f_seq fun K6 kh6 => ?_
  refine f_region ?_
  refine f_stepP rfl rfl rfl (o_move rfl) ?_
  refine f_stepP rfl rfl rfl (o_neq rfl rfl) ?_
  refine f_done ?_
  refine f_tn (kh6 _ _ ?_)
  clear kh6
  refine f_cond rfl (fun c21 => ?_) (fun c21 => ?_)
  · skip
    obtain rfl := hD1 c21
    refine f_seq fun K7 kh7 => ?_
    refine f_region ?_
    refine f_stepP rfl rfl rfl (o_move rfl) ?_
    refine f_stepP rfl rfl rfl (o_len sl38 rfl) ?_
    refine f_stepP rfl rfl rfl (o_eql rfl rfl) ?_
    refine f_stepP rfl rfl rfl (o_assign rfl) ?_
    refine f_done ?_
    refine f_tn (kh7 _ _ ?_)
    clear kh7
    refine f_ret ?_
    refine f_tr ?_
    exact f_fin1 [] Try.results4 rfl Sub.nil ⟨rfl, rfl⟩
  · skip
    have hz : nlooked N l [s] = 0 := by simpa using c21
    obtain ⟨hg0, hv⟩ := nlooked_zero hz
    have hv1 := hv s (by simp)
    obtain ⟨n, rfl⟩ : ∃ n : Nat, N = n := ⟨N.toNat, by omega⟩
    obtain ⟨k, rfl⟩ : ∃ k : Nat, s = k := ⟨s.toNat, by omega⟩
    have hg := gok_of hg0 hok
    have hkn : k < n := by omega
    obtain ⟨hD, _⟩ := hD0 hz
    rw [Int.toNat_natCast, Int.toNat_natCast] at hD
    have hDl := hD.len
    have hn1 := hg.n1
    obtain ⟨bD, spD, rfl, rfl⟩ := hoD.at_ (by omega)
    refine f_skip ?_
    refine f_tn (kh5 _ _ ?_)
    clear kh5
    refine f_seq fun K8 kh8 => ?_
    refine f_seq fun K9 kh9 => ?_
    refine f_region ?_
    refine f_stepP rfl rfl rfl (o_move rfl) ?_
    refine f_stepP rfl rfl rfl (o_len sl38 rfl) ?_
    refine f_stepP rfl rfl rfl (o_field fa24_0 rfl) ?_
    refine f_stepP rfl rfl rfl (o_load Try.isAgg3 rfl (rdA rfl)) ?_
    refine f_stepP rfl rfl rfl (o_neq rfl rfl) ?_
    refine f_stepP rfl rfl rfl (o_move rfl) ?_
    refine f_falseL 30 rfl (by simp; omega) ?_
    refine f_stepPY rfl rfl rfl rfl rfl (o_move rfl) ?_
    refine f_stepPY rfl rfl rfl rfl rfl (o_move rfl) ?_
    refine f_stepPY rfl rfl rfl rfl rfl (o_idx sl38 rfl rfl (k) ⟨by omega, by omega, by first | omega | (simp; done) | (simp; omega)⟩) ?_
    refine f_stepPY rfl rfl rfl rfl rfl (o_load Try.isAgg30 rfl (rdA (app_get (u64s_at (dg_at (by omega)))))) ?_
    refine f_stepPY rfl rfl rfl rfl rfl (o_neq rfl rfl) ?_
    refine f_stepP rfl rfl rfl (o_pickF rfl rfl) ?_
    refine f_done ?_
    refine f_tn (kh9 _ _ ?_)
    clear kh9
    refine f_condN rfl (by simpa using hD.zero) ?_
    refine f_skip ?_
    refine f_tn (kh8 _ _ ?_)
    clear kh8
    refine f_seq fun K10 kh10 => ?_
    refine f_region ?_
    refine f_stepP rfl rfl rfl (o_field fa24_0 rfl) ?_
    refine f_stepP rfl rfl rfl (o_load Try.isAgg3 rfl (rdA rfl)) ?_
    refine f_step rfl rfl rfl (o_make el41 rfl rfl n rfl (by omega) (by omega) ((List.replicate n false).map .bool) (bools_rep false n) fun b39 => ?_)
    refine f_stepP rfl rfl rfl (o_assign rfl) ?_
    refine f_done ?_
    refine f_tn (kh10 _ _ ?_)
    clear kh10
    refine f_seq fun K11 kh11 => ?_
    refine f_region ?_
    refine f_stepP rfl rfl rfl (o_move rfl) ?_
    refine f_stepP rfl rfl rfl (o_move rfl) ?_
    refine f_stepP rfl rfl rfl (o_idx sl41 rfl rfl (k) ⟨by omega, by omega, by first | omega | (simp; done) | (simp; omega)⟩) ?_
    refine f_step0 rfl rfl (o_store Try.sizeOf4 rfl rfl rfl rfl (by rw [List.length_map, List.length_replicate]; omega) (((List.replicate n false).set k true).map .bool) (bools_set _ _ _) ?_)
    refine f_done ?_
    refine f_tn (kh11 _ _ ?_)
    clear kh11
    refine f_seq fun K12 kh12 => ?_
    refine f_seq fun K13 kh13 => ?_
    refine f_region ?_
    refine f_stepP rfl rfl rfl (o_field fa24_1 rfl) ?_
    refine f_stepP rfl rfl rfl (o_load Try.isAgg22 rfl (rdA rfl)) ?_
    refine f_stepP rfl rfl rfl (o_len sl22 rfl) ?_
    refine f_stepP rfl rfl rfl (o_move rfl) ?_
    refine f_done ?_
    refine f_tn (kh13 _ _ ?_)
    clear kh13
    refine f_block ?_
    refine f_loop (α := Nat × List Bool) [5, 7, 44, 45] (fun ⟨j, tt⟩ => [(46, .int .i64 (j : Int))]) (fun ⟨j, tt⟩ => [[(b39, blk (tt.map .bool) 4)], [(bD, blk (u64s D ++ spD) 30)], [(b2, blk [.int .i64 (n : Int), .slice A l.length cap] 24)]]) (fun ⟨j, tt⟩ => j ≤ l.length ∧ tt.length = n ∧ tt[k]? = some true ∧ ∀ i (h : i < l.length), i < j → dg D l[i].dst.toNat = dadd (dg D l[i].src.toNat) l[i].wt → tt[l[i].dst.toNat]? = some true) (fun ⟨j, tt⟩ => l.length - j) (0, (List.replicate n false).set k true) ?_ ?_ ?_ ?_
    · exact (by repeat (first | exact trivial | refine ⟨rfl, ?_⟩))
    · repeat (first | exact Sub.nil | refine Sub.pick ?_ | refine Sub.castO rfl ?_ | refine Sub.skip ?_)
    · exact ⟨Nat.zero_le _, by simp, by rw [List.getElem?_set_self (by simpa using hkn)], fun i _ h => by omega⟩
    · rintro ⟨j, tt⟩ ⟨hjl, htl, htk, hti⟩
      refine f_seq fun K14 kh14 => ?_
      refine f_region ?_
      refine f_stepP rfl rfl rfl (o_lss rfl rfl) ?_
      refine f_done ?_
      refine f_tn (kh14 _ _ ?_)
      clear kh14
      refine f_seq fun K15 kh15 => ?_
      refine f_cond rfl (fun c47 => ?_) (fun c47 => ?_)
      · skip
        refine f_skip ?_
        refine f_tn (kh15 _ _ ?_)
        clear kh15
        refine f_seq fun K16 kh16 => ?_
        refine f_block ?_
        refine f_seq fun K17 kh17 => ?_
        refine f_region ?_
        have hj : j < l.length := by omega
        obtain ⟨bl, off, rfl, hS, hc⟩ := hr (flat_ne arcCs arcCs_len (by omega) hj)
        have hgj := hg.good j hj
        refine f_stepP rfl rfl rfl (o_idx sl22 rfl rfl (off + j * 3) ⟨by omega, by omega, by first | omega | (simp; done) | (simp; omega)⟩) ?_
        refine f_stepP rfl rfl rfl (o_loadA (vs := arcCs l[j]) Try.isAgg44 Try.sizeOf44 rfl rfl (roElem arcCs_len hS hc hj)) ?_
        refine f_step rfl rfl rfl (o_alloc Try.zeroValue44 rfl fun b9 => ?_)
        refine f_step0 rfl rfl (o_storeA Try.sizeOf44 rfl rfl rfl rfl (by first | exact Nat.le_of_ble_eq_true rfl | (simp; done) | (simp; omega)) _ rfl ?_)
        refine f_done ?_
        refine f_tn (kh17 _ _ ?_)
        clear kh17
        refine f_seq fun K18 kh18 => ?_
        refine f_regionT 8 rfl (by decide +kernel) ?_
        refine f_stillP rfl rfl rfl (o_move rfl) ?_
        refine f_stillP rfl rfl rfl (o_field fa44_0 rfl) ?_
        refine f_stillP rfl rfl rfl (o_load Try.isAgg3 rfl (rdA rfl)) ?_
        refine f_stillP rfl rfl rfl (o_idx sl38 rfl rfl (l[j].src.toNat) ⟨by omega, by omega, by first | omega | (simp; done) | (simp; omega)⟩) ?_
        refine f_stillP rfl rfl rfl (o_load Try.isAgg30 rfl (rdA (app_get (u64s_at (dg_at (by omega)))))) ?_
        refine f_stillP rfl rfl rfl (o_field fa44_2 rfl) ?_
        refine f_stillP rfl rfl rfl (o_load Try.isAgg42 rfl (rdA rfl)) ?_
        refine f_stillP rfl rfl rfl (o_conv Try.runUnderlying42 Try.runUnderlying30 rfl _ (wrap_u64 (by have := (hok _ (List.getElem_mem hj)).wt; omega))) ?_
        refine f_stillD (f_tail ?_)
        refine f_step rfl rfl rfl (o_call Try.call18 rfl (fun w_ hp_ => Add_spec (dg D l[j].src.toNat) l[j].wt w_ (hD.rng _ (by omega)) (by have := (hok _ (List.getElem_mem hj)).wt; unfold INF; omega)) ?_)
        rintro _ _ ⟨rfl, rfl⟩
        dsimp only [List.cons_append, List.nil_append]
        refine f_stepP rfl rfl rfl (o_assign rfl) ?_
        refine f_done ?_
        refine f_tn (kh18 _ _ ?_)
        clear kh18
        refine f_seq fun K19 kh19 => ?_
        refine f_seq fun K20 kh20 => ?_
        refine f_region ?_
        refine f_stepP rfl rfl rfl (o_move rfl) ?_
        refine f_stepP rfl rfl rfl (o_field fa44_1 rfl) ?_
        refine f_stepP rfl rfl rfl (o_load Try.isAgg3 rfl (rdA rfl)) ?_
        refine f_stepP rfl rfl rfl (o_idx sl38 rfl rfl (l[j].dst.toNat) ⟨by omega, by omega, by first | omega | (simp; done) | (simp; omega)⟩) ?_
        refine f_stepP rfl rfl rfl (o_load Try.isAgg30 rfl (rdA (app_get (u64s_at (dg_at (by omega)))))) ?_
        refine f_stepP rfl rfl rfl (o_move rfl) ?_
        refine f_stepP rfl rfl rfl (o_gtr rfl rfl) ?_
        refine f_done ?_
        refine f_tn (kh20 _ _ ?_)
        clear kh20
        refine f_condN rfl (by have := hD.arc (i := j) (by simpa using hj) rfl (hg.dst _ _ _); rw [fw_get _ hj] at this; omega) ?_
        refine f_skip ?_
        refine f_tn (kh19 _ _ ?_)
        clear kh19
        refine f_seq fun K21 kh21 => ?_
        refine f_region ?_
        refine f_stepP rfl rfl rfl (o_move rfl) ?_
        refine f_stepP rfl rfl rfl (o_field fa44_1 rfl) ?_
        refine f_stepP rfl rfl rfl (o_load Try.isAgg3 rfl (rdA rfl)) ?_
        refine f_stepP rfl rfl rfl (o_idx sl38 rfl rfl (l[j].dst.toNat) ⟨by omega, by omega, by first | omega | (simp; done) | (simp; omega)⟩) ?_
        refine f_stepP rfl rfl rfl (o_load Try.isAgg30 rfl (rdA (app_get (u64s_at (dg_at (by omega)))))) ?_
        refine f_stepP rfl rfl rfl (o_move rfl) ?_
        refine f_stepP rfl rfl rfl (o_eql rfl rfl) ?_
        refine f_done ?_
        refine f_tn (kh21 _ _ ?_)
        clear kh21
        refine f_cond rfl (fun c72 => ?_) (fun c72 => ?_)
        · skip
          refine f_region ?_
          refine f_stepP rfl rfl rfl (o_move rfl) ?_
          refine f_stepP rfl rfl rfl (o_field fa44_1 rfl) ?_
          refine f_stepP rfl rfl rfl (o_load Try.isAgg3 rfl (rdA rfl)) ?_
          refine f_stepP rfl rfl rfl (o_idx sl41 rfl rfl (l[j].dst.toNat) ⟨by omega, by omega, by first | omega | (simp; done) | (simp; omega)⟩) ?_
          refine f_step0 rfl rfl (o_store Try.sizeOf4 rfl rfl rfl rfl (by rw [List.length_map]; omega) ((tt.set l[j].dst.toNat true).map .bool) (bools_set _ _ _) ?_)
          refine f_done ?_
          refine f_bn ?_
          refine f_tn (kh16 _ _ ?_)
          clear kh16
          refine f_region ?_
          refine f_stepP rfl rfl rfl (o_add rfl rfl _ (wrap_i64 (by omega))) ?_
          refine f_stepP rfl rfl rfl (o_move rfl) ?_
          refine f_done ?_
          refine f_tn (f_again (j + 1, tt.set l[j].dst.toNat true) (by first | omega | (dsimp only; omega) | (simp; omega)) ⟨by omega, by simpa using htl, set_true htk, tt_next (hj := hj) hti (by omega)⟩ ?_ ?_ ?_)
          · exact (by repeat (first | exact trivial | refine ⟨rfl, ?_⟩))
          · exact (by repeat (first | exact trivial | refine ⟨rfl, ?_⟩))
          · repeat (first | exact Sub.nil | refine Sub.pick ?_ | refine Sub.castO rfl ?_ | refine Sub.skip ?_)
        · skip
          refine f_skip ?_
          refine f_bn ?_
          refine f_tn (kh16 _ _ ?_)
          clear kh16
          refine f_region ?_
          refine f_stepP rfl rfl rfl (o_add rfl rfl _ (wrap_i64 (by omega))) ?_
          refine f_stepP rfl rfl rfl (o_move rfl) ?_
          refine f_done ?_
          refine f_tn (f_again (j + 1, tt) (by first | omega | (dsimp only; omega) | (simp; omega)) ⟨by omega, htl, htk, tt_same (hj := hj) hti c72⟩ ?_ ?_ ?_)
          · exact (by repeat (first | exact trivial | refine ⟨rfl, ?_⟩))
          · exact (by repeat (first | exact trivial | refine ⟨rfl, ?_⟩))
          · repeat (first | exact Sub.nil | refine Sub.pick ?_ | refine Sub.castO rfl ?_ | refine Sub.skip ?_)
      · skip
        refine f_exit ?_
        refine f_te ?_
        clear kh15
        refine f_te ?_
        refine f_be ?_
        refine f_tn (kh12 _ _ ?_)
        clear kh12
        refine f_seq fun K22 kh22 => ?_
        refine f_seq fun K23 kh23 => ?_
        refine f_region ?_
        refine f_stepP rfl rfl rfl (o_move rfl) ?_
        refine f_stepP rfl rfl rfl (o_len sl38 rfl) ?_
        refine f_stepP rfl rfl rfl (o_move rfl) ?_
        refine f_done ?_
        refine f_tn (kh23 _ _ ?_)
        clear kh23
        refine f_block ?_
        refine f_loop (α := Nat) [5, 7, 79] (fun v => [(80, .int .i64 (v : Int))]) (fun v => [[(b39, blk (tt.map .bool) 4)], [(bD, blk (u64s D ++ spD) 30)]]) (fun v => v ≤ n) (fun v => n - v) (0) ?_ ?_ ?_ ?_
        · exact (by repeat (first | exact trivial | refine ⟨rfl, ?_⟩))
        · repeat (first | exact Sub.nil | refine Sub.pick ?_ | refine Sub.castO rfl ?_ | refine Sub.skip ?_)
        · exact Nat.zero_le _
        · rintro v hvn
          refine f_seq fun K24 kh24 => ?_
          refine f_region ?_
          refine f_stepP rfl rfl rfl (o_lss rfl rfl) ?_
          refine f_done ?_
          refine f_tn (kh24 _ _ ?_)
          clear kh24
          refine f_seq fun K25 kh25 => ?_
          refine f_cond rfl (fun c81 => ?_) (fun c81 => ?_)
          · skip
            refine f_skip ?_
            refine f_tn (kh25 _ _ ?_)
            clear kh25
            refine f_seq fun K26 kh26 => ?_
            refine f_block ?_
            refine f_seq fun K27 kh27 => ?_
            refine f_region ?_
            refine f_stepP rfl rfl rfl (o_move rfl) ?_
            refine f_stepP rfl rfl rfl (o_assign rfl) ?_
            refine f_done ?_
            refine f_tn (kh27 _ _ ?_)
            clear kh27
            refine f_seq fun K28 kh28 => ?_
            refine f_region ?_
            refine f_stepP rfl rfl rfl (o_move rfl) ?_
            refine f_stepP rfl rfl rfl (o_move rfl) ?_
            have hv' : v < n := by omega
            refine f_stepP rfl rfl rfl (o_idx sl38 rfl rfl (v) ⟨by omega, by omega, by first | omega | (simp; done) | (simp; omega)⟩) ?_
            refine f_stepP rfl rfl rfl (o_load Try.isAgg30 rfl (rdA (app_get (u64s_at (dg_at (by omega)))))) ?_
            refine f_stepP rfl rfl rfl (o_lss rfl rfl) ?_
            refine f_stepP rfl rfl rfl (o_move rfl) ?_
            refine f_splitL 88 rfl (fun g88 => ?_) (fun g88 => ?_)
            · skip
              have htv : tt[v]? = some true := by
                by_cases e : v = k
                · subst e; exact htk
                · obtain ⟨i, hi, h1, h2⟩ := hD.tight hv' e g88
                  have hi' : i < l.length := by simpa using hi
                  rw [fw_get hi hi'] at h1 h2
                  have := hti i hi' (by omega) (by rw [h1]; exact h2)
                  rwa [h1] at this
              refine f_stepPY rfl rfl rfl rfl rfl (o_move rfl) ?_
              refine f_stepPY rfl rfl rfl rfl rfl (o_move rfl) ?_
              refine f_stepPY rfl rfl rfl rfl rfl (o_idx sl41 rfl rfl (v) ⟨by omega, by omega, by first | omega | (simp; done) | (simp; omega)⟩) ?_
              refine f_stepPY rfl rfl rfl rfl rfl (o_load Try.isAgg4 rfl (rdA (v := .bool true) (by rw [List.getElem?_map, htv]; rfl))) ?_
              refine f_stepPY rfl rfl rfl rfl rfl (o_not rfl) ?_
              refine f_stepP rfl rfl rfl (o_pickT rfl rfl) ?_
              refine f_done ?_
              refine f_tn (kh28 _ _ ?_)
              clear kh28
              refine f_condF rfl ?_
              refine f_skip ?_
              refine f_bn ?_
              refine f_tn (kh26 _ _ ?_)
              clear kh26
              refine f_region ?_
              refine f_stepP rfl rfl rfl (o_add rfl rfl _ (wrap_i64 (by omega))) ?_
              refine f_stepP rfl rfl rfl (o_move rfl) ?_
              refine f_done ?_
              refine f_tn (f_again (v + 1) (by first | omega | (dsimp only; omega) | (simp; omega)) (by omega) ?_ ?_ ?_)
              · exact (by repeat (first | exact trivial | refine ⟨rfl, ?_⟩))
              · exact (by repeat (first | exact trivial | refine ⟨rfl, ?_⟩))
              · repeat (first | exact Sub.nil | refine Sub.pick ?_ | refine Sub.castO rfl ?_ | refine Sub.skip ?_)
            · skip
              refine f_stepN rfl rfl rfl rfl rfl rfl ?_
              refine f_stepN rfl rfl rfl rfl rfl rfl ?_
              refine f_stepN rfl rfl rfl rfl rfl rfl ?_
              refine f_stepN rfl rfl rfl rfl rfl rfl ?_
              refine f_stepN rfl rfl rfl rfl rfl rfl ?_
              refine f_stepP rfl rfl rfl (o_pickF rfl rfl) ?_
              refine f_done ?_
              refine f_tn (kh28 _ _ ?_)
              clear kh28
              refine f_condF rfl ?_
              refine f_skip ?_
              refine f_bn ?_
              refine f_tn (kh26 _ _ ?_)
              clear kh26
              refine f_region ?_
              refine f_stepP rfl rfl rfl (o_add rfl rfl _ (wrap_i64 (by omega))) ?_
              refine f_stepP rfl rfl rfl (o_move rfl) ?_
              refine f_done ?_
              refine f_tn (f_again (v + 1) (by first | omega | (dsimp only; omega) | (simp; omega)) (by omega) ?_ ?_ ?_)
              · exact (by repeat (first | exact trivial | refine ⟨rfl, ?_⟩))
              · exact (by repeat (first | exact trivial | refine ⟨rfl, ?_⟩))
              · repeat (first | exact Sub.nil | refine Sub.pick ?_ | refine Sub.castO rfl ?_ | refine Sub.skip ?_)
          · skip
            refine f_exit ?_
            refine f_te ?_
            clear kh25
            refine f_te ?_
            refine f_be ?_
            refine f_tn (kh22 _ _ ?_)
            clear kh22
            refine f_seq fun K29 kh29 => ?_
            refine f_region ?_
            refine f_stepP rfl rfl rfl (o_assign rfl) ?_
            refine f_done ?_
            refine f_tn (kh29 _ _ ?_)
            clear kh29
            refine f_ret ?_
            exact f_fin1 [] Try.results4 rfl Sub.nil ⟨rfl, rfl⟩

set_option maxRecDepth 100000 in
set_option maxHeartbeats 4000000 in
theorem NearSame_spec (N : Int) (A : Option Addr) (l : List Arc) (cap : Nat) (s t : Int) (w : World) (hr : Ro (Fr w []) w A (l.flatMap arcCs)) (hl : l.length ≤ 9223372036854775807) (hN : I64 N) (hok : ∀ x ∈ l, ArcOk x) :
    Meets Try.prog 5 [.agg #[.int .i64 N, .slice A l.length cap], .int .i64 s, .int .i64 t] w [] (fun u m => u = .bool true ∧ m = []) := by
  refine f_enter Try.func5 rfl Try.ntmps5 rfl Owns.nil ?_
  refine f_seq fun K1 kh1 => ?_
  refine f_region ?_
  refine f_step rfl rfl rfl (o_box rfl rfl fun b3 => ?_)
  refine f_stepP rfl rfl rfl (o_assign rfl) ?_
  refine f_done ?_
  refine f_tn (kh1 _ _ ?_)
  clear kh1
  refine f_seq fun K2 kh2 => ?_
  refine f_seq fun K3 kh3 => ?_
  refine f_region ?_
  refine f_step rfl rfl rfl (o_call Try.call11 rfl (fun w_ hp_ => works_spec w_) ?_)
  rintro _ _ ⟨rfl, rfl⟩
  dsimp only [List.cons_append, List.nil_append]
  refine f_stepP rfl rfl rfl (o_not rfl) ?_
  refine f_done ?_
  refine f_tn (kh3 _ _ ?_)
  clear kh3
  refine f_condF rfl ?_
  refine f_skip ?_
  refine f_tn (kh2 _ _ ?_)
  clear kh2
  refine f_seq fun K4 kh4 => ?_
  refine f_region ?_
  refine f_stepP rfl rfl rfl (o_loadA (vs := [_, _]) Try.isAgg24 Try.sizeOf24 rfl rfl ⟨(rdA rfl), (rdA rfl), trivial⟩) ?_
  refine f_stepP rfl rfl rfl (o_move rfl) ?_
  refine f_stepP rfl rfl rfl (o_move rfl) ?_
  refine f_step rfl rfl rfl (o_call Try.call19 rfl (fun w_ hp_ => Between_spec N A l cap s t w_ (hr.up0 hp_) hl hN hok) ?_)
  rintro _ _ ⟨y, rfl, rfl, hy1, hy0⟩
  dsimp only [List.cons_append, List.nil_append]
  refine f_stepP rfl rfl rfl (o_move rfl) ?_
  refine f_stepP rfl rfl rfl (o_extract rfl rfl) ?_
  refine f_stepP rfl rfl rfl (o_extract rfl rfl) ?_
  refine f_stepP rfl rfl rfl (o_assign rfl) ?_
  refine f_stepP rfl rfl rfl (o_assign rfl) ?_
  refine f_done ?_
  refine f_tn (kh4 _ _ ?_)
  clear kh4
  refine f_seq fun K5 kh5 => ?_
  refine f_region ?_
  refine f_stepP rfl rfl rfl (o_loadA (vs := [_, _]) Try.isAgg24 Try.sizeOf24 rfl rfl ⟨(rdA rfl), (rdA rfl), trivial⟩) ?_
  refine f_stepP rfl rfl rfl (o_move rfl) ?_
  refine f_stepP rfl rfl rfl (o_move rfl) ?_
  refine f_step rfl rfl rfl (o_call Try.call13 rfl (fun w_ hp_ => Walk_spec N A l cap s t w_ (hr.up0 hp_) hl hN hok) ?_)
  rintro _ _ ⟨v9, m9, W, x, rfl, rfl, hoW, hx1, hx0⟩
  dsimp only [List.cons_append, List.nil_append]
  refine f_stepP rfl rfl rfl (o_move rfl) ?_
  refine f_stepP rfl rfl rfl (o_extract rfl rfl) ?_
  refine f_stepP rfl rfl rfl (o_extract rfl rfl) ?_
  refine f_stepP rfl rfl rfl (o_extract rfl rfl) ?_
  refine f_stepP rfl rfl rfl (o_assign rfl) ?_
  refine f_stepP rfl rfl rfl (o_assign rfl) ?_
  refine f_stepP rfl rfl rfl (o_assign rfl) ?_
  refine f_done ?_
  refine f_tn (kh5 _ _ ?_)
  clear kh5
  refine f_seq fun K6 kh6 => ?_
  refine f_seq fun K7 kh7 => ?_
  refine f_region ?_
  refine f_stepP rfl rfl rfl (o_move rfl) ?_
  refine f_stepP rfl rfl rfl (o_neq rfl rfl) ?_
  refine f_done ?_
  refine f_tn (kh7 _ _ ?_)
  clear kh7
  refine f_cond rfl (fun c32 => ?_) (fun c32 => ?_)
  · skip
    obtain ⟨rfl, rfl⟩ := hx1 c32
    obtain rfl := hy1 c32
    refine f_seq fun K8 kh8 => ?_
    refine f_region ?_
    refine f_stepP rfl rfl rfl (o_move rfl) ?_
    refine f_stepP rfl rfl rfl (o_move rfl) ?_
    refine f_stepP rfl rfl rfl (o_eql rfl rfl) ?_
    refine f_stepP rfl rfl rfl (o_move rfl) ?_
    refine f_trueL 36 rfl (rfl) ?_
    refine f_stepPY rfl rfl rfl rfl rfl (o_move rfl) ?_
    refine f_stepPY rfl rfl rfl rfl rfl (o_eql rfl rfl) ?_
    refine f_stepP rfl rfl rfl (o_pickT rfl rfl) ?_
    refine f_stepP rfl rfl rfl (o_move rfl) ?_
    refine f_trueL 40 rfl (rfl) ?_
    refine f_stepPY rfl rfl rfl rfl rfl (o_move rfl) ?_
    refine f_stepPY rfl rfl rfl rfl rfl (o_eql rfl rfl) ?_
    refine f_stepP rfl rfl rfl (o_pickT rfl rfl) ?_
    refine f_stepP rfl rfl rfl (o_assign rfl) ?_
    refine f_done ?_
    refine f_tn (kh8 _ _ ?_)
    clear kh8
    refine f_ret ?_
    refine f_tr ?_
    exact f_fin1 [] Try.results5 rfl Sub.nil ⟨rfl, rfl⟩
  · skip
    have hz : nlooked N l [s, t] = 0 := by simpa using c32
    obtain ⟨hg0, hv⟩ := nlooked_zero hz
    have hv1 := hv s (by simp)
    have hv2 := hv t (by simp)
    obtain ⟨n, rfl⟩ : ∃ n : Nat, N = n := ⟨N.toNat, by omega⟩
    obtain ⟨ks, rfl⟩ : ∃ k : Nat, s = k := ⟨s.toNat, by omega⟩
    obtain ⟨kt, rfl⟩ : ∃ k : Nat, t = k := ⟨t.toNat, by omega⟩
    have hkt : kt < n := by omega
    rw [Int.toNat_natCast, Int.toNat_natCast] at hy0 hx0
    have hz1 : nlooked (n : Int) l [(ks : Int)] = 0 := by
      unfold nlooked; rw [if_neg (by omega), if_neg (by simp; omega)]
    refine f_skip ?_
    refine f_tn (kh6 _ _ ?_)
    clear kh6
    refine f_seq fun K9 kh9 => ?_
    refine f_region ?_
    refine f_stepP rfl rfl rfl (o_loadA (vs := [_, _]) Try.isAgg24 Try.sizeOf24 rfl rfl ⟨(rdA rfl), (rdA rfl), trivial⟩) ?_
    refine f_stepP rfl rfl rfl (o_move rfl) ?_
    refine f_step rfl rfl rfl (o_call Try.call17 rfl (fun w_ hp_ => From_spec (n : Int) A l cap (ks : Int) w_ (hr.up0 hp_) hl hN hok) ?_)
    rintro _ _ ⟨v12, m12, D, rfl, rfl, hoD, hD1, hD0⟩
    obtain ⟨A12, c12, rfl, hc12⟩ := hoD.val
    obtain ⟨hD, _⟩ := hD0 hz1
    rw [Int.toNat_natCast, Int.toNat_natCast] at hD
    have hDl := hD.len
    obtain ⟨bD, spD, rfl, rfl⟩ := hoD.at_ (by omega)
    obtain rfl : y = dg D kt := (hy0 hz).2.unique (hD.isB hkt)
    obtain rfl : x = dg D kt := (hx0 hz).2.1.unique (hD.isB hkt)
    rw [hz, hz1]
    dsimp only [List.cons_append, List.nil_append]
    refine f_stepP rfl rfl rfl (o_move rfl) ?_
    refine f_stepP rfl rfl rfl (o_extract rfl rfl) ?_
    refine f_stepP rfl rfl rfl (o_extract rfl rfl) ?_
    refine f_stepP rfl rfl rfl (o_assign rfl) ?_
    refine f_stepP rfl rfl rfl (o_assign rfl) ?_
    refine f_done ?_
    refine f_tn (kh9 _ _ ?_)
    clear kh9
    refine f_seq fun K10 kh10 => ?_
    refine f_region ?_
    refine f_stepP rfl rfl rfl (o_move rfl) ?_
    refine f_stepP rfl rfl rfl (o_eql rfl rfl) ?_
    refine f_stepP rfl rfl rfl (o_move rfl) ?_
    refine f_trueL 52 rfl (rfl) ?_
    refine f_stepPY rfl rfl rfl rfl rfl (o_move rfl) ?_
    refine f_stepPY rfl rfl rfl rfl rfl (o_move rfl) ?_
    refine f_stepPY rfl rfl rfl rfl rfl (o_eql rfl rfl) ?_
    refine f_stepP rfl rfl rfl (o_pickT rfl rfl) ?_
    refine f_stepP rfl rfl rfl (o_move rfl) ?_
    refine f_trueL 57 rfl (rfl) ?_
    refine f_stepPY rfl rfl rfl rfl rfl (o_move rfl) ?_
    refine f_stepPY rfl rfl rfl rfl rfl (o_eql rfl rfl) ?_
    refine f_stepP rfl rfl rfl (o_pickT rfl rfl) ?_
    refine f_stepP rfl rfl rfl (o_move rfl) ?_
    refine f_trueL 61 rfl (rfl) ?_
    refine f_stepPY rfl rfl rfl rfl rfl (o_move rfl) ?_
    refine f_stepPY rfl rfl rfl rfl rfl (o_move rfl) ?_
    refine f_stepPY rfl rfl rfl rfl rfl (o_idx sl38 rfl rfl (kt) ⟨by omega, by omega, by first | omega | (simp; done) | (simp; omega)⟩) ?_
    refine f_stepPY rfl rfl rfl rfl rfl (o_load Try.isAgg30 rfl (rdA (app_get (u64s_at (dg_at (by omega)))))) ?_
    refine f_stepPY rfl rfl rfl rfl rfl (o_move rfl) ?_
    refine f_stepPY rfl rfl rfl rfl rfl (o_eql rfl rfl) ?_
    refine f_stepP rfl rfl rfl (o_pickT rfl rfl) ?_
    refine f_stepP rfl rfl rfl (o_assign rfl) ?_
    refine f_done ?_
    refine f_tn (kh10 _ _ ?_)
    clear kh10
    refine f_ret ?_
    exact f_fin1 [] Try.results5 rfl Sub.nil ⟨by simp, rfl⟩

end Go.Proofs.Ytegkdbicomedjaa
