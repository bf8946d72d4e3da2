/- flyoverlaw04.HeapDrops answers true. -/
import Derived.Test.YtpooabplhgdfmaaFSorts4
namespace Go.Proofs.Ytpooabplhgdfmaa
open Go Go.RowKit Fly
set_option linter.unusedVariables false
set_option linter.unusedSimpArgs false


/-- The first i keys are in. -/
def fillT (n : Nat) (keys : List Int) (i : Nat) : List (Option Int) := (List.range n).map (fun j => if j < i then keys[j]? else none)
theorem fillT_len (n : Nat) (keys : List Int) (i : Nat) : (fillT n keys i).length = n := by simp [fillT]
theorem fillT_zero (n : Nat) (keys : List Int) : fillT n keys 0 = List.replicate n none := List.ext_getElem (by simp [fillT]) fun j h1 h2 => by simp [fillT]
theorem fillT_none {n : Nat} {keys : List Int} {i : Nat} (hi : i < n) : (fillT n keys i)[i]? = some none := by simp [fillT, hi]
theorem fillT_next {n : Nat} {keys : List Int} {i : Nat} (hi : i < n) (hk : i < keys.length) : (fillT n keys i).set i (some keys[i]) = fillT n keys (i + 1) := by
  refine List.ext_getElem (by simp [fillT]) fun j h1 h2 => ?_
  rw [List.getElem_set]
  simp only [fillT, List.getElem_map, List.getElem_range]
  split
  · rename_i e; subst e; simp [hk]
  · rename_i e
    have : (j < i + 1) ↔ (j < i) := by omega
    simp only [this]
theorem fillT_some {n : Nat} {keys : List Int} {k : Nat} (hk : k < n) (hk' : k < keys.length) : (fillT n keys n)[k]? = some (some keys[k]) := by simp [fillT, hk, hk']
theorem fill_count {n : Nat} {keys : List Int} (h : n ≤ keys.length) : tcount (fillT n keys n) = n := by
  unfold tcount
  have : (fillT n keys n).countP Option.isSome = (fillT n keys n).length := List.countP_eq_length.2 fun o ho => by
    obtain ⟨j, hj, rfl⟩ := List.mem_iff_getElem.1 ho
    rw [fillT_len] at hj
    simp [fillT, hj, show j < keys.length by omega]
  rw [this, fillT_len]
/-- The other heap: without one number. -/
theorem without_next {n : Nat} {keys : List Int} {i d : Nat} (hi : i < n) (hne : i ≠ d) (hk : i < keys.length) : lowerR ((fillT n keys i).set d none) (i : Int) keys[i] = ((fillT n keys (i + 1)).set d none, true, 0) := by
  rw [lower_new (by simpa [fillT_len] using hi) (by rw [List.getElem?_set_ne (by omega)]; exact fillT_none hi), ← fillT_next hi hk, List.set_comm _ _ (by omega)]
theorem with_next {n : Nat} {keys : List Int} {i : Nat} (hi : i < n) (hk : i < keys.length) : lowerR (fillT n keys i) (i : Int) keys[i] = (fillT n keys (i + 1), true, 0) := by
  rw [lower_new (by rw [fillT_len]; exact hi) (fillT_none hi), fillT_next hi hk]
theorem without_same {n : Nat} {keys : List Int} {d : Nat} (hi : d < n) (hk : d < keys.length) : (fillT n keys d).set d none = (fillT n keys (d + 1)).set d none := by
  rw [← fillT_next hi hk, List.set_set]
theorem without_eq {n : Nat} {keys : List Int} {i d : Nat} (e : i = d) (hi : i < n) (hk : i < keys.length) : (fillT n keys i).set d none = (fillT n keys (i + 1)).set d none := by subst e; exact without_same hi hk
theorem without_zero {n : Nat} {keys : List Int} {d : Nat} : (fillT n keys 0).set d none = List.replicate n none := by
  rw [fillT_zero]
  refine List.ext_getElem (by simp) fun j h1 h2 => ?_
  rw [List.getElem_set]; split <;> simp
theorem tcount_popT (T : List (Option Int)) : tcount (popT T) = tcount T - 1 := by
  cases e : topR T with
  | none => rw [popT_none e, topFrom_none e]
  | some p =>
    obtain ⟨k, x⟩ := p
    rw [popT_some e]
    have := tcount_pop (topR_some e).1
    omega

set_option maxRecDepth 100000 in
set_option maxHeartbeats 4000000 in
theorem HeapDrops_spec (A : Option Addr) (keys : List Int) (cap : Nat) (d0 : Int) (w : World) (hr : Ro (Fr w []) w A (u64s keys)) (hl : keys.length ≤ 9223372036854775807) :
    Meets Try.prog 5 [.slice A keys.length cap, .int .i64 d0] w [] (fun u m => u = .bool true ∧ m = []) := by
  refine f_enter Try.func5 rfl Try.ntmps5 rfl Owns.nil ?_
  refine f_seq fun K1 kh1 => ?_
  refine f_region ?_
  refine f_stepP rfl rfl rfl (o_assign rfl) ?_
  refine f_done ?_
  refine f_tn (kh1 _ _ ?_)
  clear kh1
  refine f_seq fun K2 kh2 => ?_
  refine f_seq fun K3 kh3 => ?_
  refine f_region ?_
  refine f_step rfl rfl rfl (o_call Try.call8 rfl (fun w_ hp_ => works_spec w_) ?_)
  rintro _ _ ⟨rfl, rfl⟩
  dsimp only [List.cons_append, List.nil_append]
  refine f_stepP rfl rfl rfl (o_not rfl) ?_
  refine f_done ?_
  refine f_tn (kh3 _ _ ?_)
  clear kh3
  refine f_condF rfl ?_
  refine f_skip ?_
  refine f_tn (kh2 _ _ ?_)
  clear kh2
  refine f_seq fun K4 kh4 => ?_
  refine f_region ?_
  refine f_stepP rfl rfl rfl (o_move rfl) ?_
  refine f_stepP rfl rfl rfl (o_len sl22 rfl) ?_
  refine f_stepP rfl rfl rfl (o_min rfl rfl) ?_
  refine f_stepP rfl rfl rfl (o_assign rfl) ?_
  refine f_done ?_
  refine f_tn (kh4 _ _ ?_)
  clear kh4
  refine f_seq fun K5 kh5 => ?_
  refine f_seq fun K6 kh6 => ?_
  obtain ⟨n, hn⟩ : ∃ n : Nat, min (keys.length : Int) 100 = (n : Int) := ⟨min keys.length 100, by omega⟩
  rw [hn]
  refine f_region ?_
  refine f_stepP rfl rfl rfl (o_move rfl) ?_
  refine f_stepP rfl rfl rfl (o_eql rfl rfl) ?_
  refine f_done ?_
  refine f_tn (kh6 _ _ ?_)
  clear kh6
  refine f_cond rfl (fun c25 => ?_) (fun c25 => ?_)
  · skip
    refine f_seq fun K7 kh7 => ?_
    refine f_region ?_
    refine f_stepP rfl rfl rfl (o_assign rfl) ?_
    refine f_done ?_
    refine f_tn (kh7 _ _ ?_)
    clear kh7
    refine f_ret ?_
    refine f_tr ?_
    exact f_fin1 [] Try.results5 rfl Sub.nil ⟨rfl, rfl⟩
  · skip
    refine f_skip ?_
    refine f_tn (kh5 _ _ ?_)
    clear kh5
    refine f_seq fun K8 kh8 => ?_
    refine f_region ?_
    refine f_stepP rfl rfl rfl (o_move rfl) ?_
    refine f_stepP rfl rfl rfl (o_move rfl) ?_
    refine f_step rfl rfl rfl (o_call Try.call13 rfl (fun w_ hp_ => among_spec d0 (n : Int) w_ (by omega)) ?_)
    rintro _ _ ⟨rfl, rfl⟩
    obtain ⟨d, hd⟩ : ∃ d : Nat, d0 % (n : Int) = (d : Int) := ⟨(d0 % (n : Int)).toNat, by have := Int.emod_nonneg d0 (show (n : Int) ≠ 0 by omega); omega⟩
    have hdn : d < n := by have := Int.emod_lt_of_pos d0 (show (0 : Int) < n by omega); omega
    rw [hd]
    dsimp only [List.cons_append, List.nil_append]
    refine f_stepP rfl rfl rfl (o_assign rfl) ?_
    refine f_done ?_
    refine f_tn (kh8 _ _ ?_)
    clear kh8
    refine f_seq fun K9 kh9 => ?_
    refine f_region ?_
    refine f_stepP rfl rfl rfl (o_move rfl) ?_
    refine f_step rfl rfl rfl (o_call Try.call9 rfl (fun w_ hp_ => New_spec (n : Int) w_) ?_)
    rintro _ _ hN
    rw [NewΦ, if_neg (by omega), Int.toNat_natCast] at hN
    obtain ⟨ba, hma0, rfl, rfl, hHa0⟩ := hN
    dsimp only [List.cons_append, List.nil_append]
    refine f_stepP rfl rfl rfl (o_move rfl) ?_
    refine f_stepP rfl rfl rfl (o_extract rfl rfl) ?_
    refine f_stepP rfl rfl rfl (o_extract rfl rfl) ?_
    refine f_stepP rfl rfl rfl (o_assign rfl) ?_
    refine f_stepP rfl rfl rfl (o_assign rfl) ?_
    refine f_done ?_
    refine f_tn (kh9 _ _ ?_)
    clear kh9
    refine f_seq fun K10 kh10 => ?_
    refine f_region ?_
    refine f_stepP rfl rfl rfl (o_move rfl) ?_
    refine f_step rfl rfl rfl (o_call Try.call9 rfl (fun w_ hp_ => New_spec (n : Int) w_) ?_)
    rintro _ _ hN
    rw [NewΦ, if_neg (by omega), Int.toNat_natCast] at hN
    obtain ⟨bb, hmb0, rfl, rfl, hHb0⟩ := hN
    dsimp only [List.cons_append, List.nil_append]
    refine f_stepP rfl rfl rfl (o_move rfl) ?_
    refine f_stepP rfl rfl rfl (o_extract rfl rfl) ?_
    refine f_stepP rfl rfl rfl (o_extract rfl rfl) ?_
    refine f_stepP rfl rfl rfl (o_assign rfl) ?_
    refine f_stepP rfl rfl rfl (o_assign rfl) ?_
    refine f_done ?_
    refine f_tn (kh10 _ _ ?_)
    clear kh10
    refine f_seq fun K11 kh11 => ?_
    refine f_seq fun K12 kh12 => ?_
    refine f_region ?_
    refine f_stepP rfl rfl rfl (o_move rfl) ?_
    refine f_stepP rfl rfl rfl (o_eqlN (by kernel_rfl) rfl rfl) ?_
    refine f_stepP rfl rfl rfl (o_move rfl) ?_
    refine f_stepPY rfl rfl rfl rfl rfl (o_move rfl) ?_
    refine f_stepPY rfl rfl rfl rfl rfl (o_eqlN (by kernel_rfl) rfl rfl) ?_
    refine f_stepP rfl rfl rfl (o_pickF rfl rfl) ?_
    refine f_stepP rfl rfl rfl (o_move rfl) ?_
    refine f_stepPY rfl rfl rfl rfl rfl (o_move rfl) ?_
    refine f_stepPY rfl rfl rfl rfl rfl (o_neq rfl rfl) ?_
    refine f_stepP rfl rfl rfl (o_pickF rfl rfl) ?_
    refine f_stepP rfl rfl rfl (o_move rfl) ?_
    refine f_splitL 49 rfl (fun g49 => ?_) (fun g49 => ?_)
    · skip
      refine f_stepN rfl rfl rfl rfl rfl rfl ?_
      refine f_stepN rfl rfl rfl rfl rfl rfl ?_
      refine f_stepP rfl rfl rfl (o_pickT rfl rfl) ?_
      refine f_done ?_
      refine f_tn (kh12 _ _ ?_)
      clear kh12
      refine f_condT rfl ?_
      refine f_seq fun K13 kh13 => ?_
      refine f_region ?_
      refine f_stepP rfl rfl rfl (o_assign rfl) ?_
      refine f_done ?_
      refine f_tn (kh13 _ _ ?_)
      clear kh13
      refine f_ret ?_
      refine f_tr ?_
      exact f_fin1 [] Try.results5 rfl Sub.nil ⟨by congr 1; exact decide_eq_true (by omega), rfl⟩
    · skip
      refine f_stepPY rfl rfl rfl rfl rfl (o_move rfl) ?_
      refine f_stepPY rfl rfl rfl rfl rfl (o_neq rfl rfl) ?_
      refine f_stepP rfl rfl rfl (o_pickF rfl rfl) ?_
      refine f_done ?_
      refine f_tn (kh12 _ _ ?_)
      clear kh12
      refine f_condN rfl (by simp) ?_
      refine f_skip ?_
      refine f_tn (kh11 _ _ ?_)
      clear kh11
      refine f_seq fun K14 kh14 => ?_
      refine f_seq fun K15 kh15 => ?_
      refine f_region ?_
      refine f_stepP rfl rfl rfl (o_move rfl) ?_
      refine f_stepP rfl rfl rfl (o_move rfl) ?_
      refine f_done ?_
      refine f_tn (kh15 _ _ ?_)
      clear kh15
      refine f_block ?_
      refine f_loop (α := Nat × Seg × Seg) [0, 1, 5, 6, 8, 53] (fun ⟨i, hma, hmb⟩ => [(54, .int .i64 (i : Int))]) (fun ⟨i, hma, hmb⟩ => [hmb, hma]) (fun ⟨i, hma, hmb⟩ => i ≤ n ∧ HRep (fillT n keys i) ba hma ∧ HRep ((fillT n keys i).set d none) bb hmb) (fun ⟨i, hma, hmb⟩ => n - i) (0, hma0, hmb0) ?_ ?_ ?_ ?_
      · exact (by repeat (first | exact trivial | refine ⟨rfl, ?_⟩))
      · repeat (first | exact Sub.nil | refine Sub.pick ?_ | refine Sub.castO rfl ?_ | refine Sub.skip ?_)
      · exact ⟨by omega, by rw [fillT_zero]; exact hHa0, by rw [without_zero]; exact hHb0⟩
      · rintro ⟨i, hma, hmb⟩ ⟨hi0, hHa, hHb⟩
        refine f_seq fun K16 kh16 => ?_
        refine f_region ?_
        refine f_stepP rfl rfl rfl (o_lss rfl rfl) ?_
        refine f_done ?_
        refine f_tn (kh16 _ _ ?_)
        clear kh16
        refine f_seq fun K17 kh17 => ?_
        refine f_cond rfl (fun c55 => ?_) (fun c55 => ?_)
        · skip
          refine f_skip ?_
          refine f_tn (kh17 _ _ ?_)
          clear kh17
          refine f_seq fun K18 kh18 => ?_
          refine f_block ?_
          refine f_seq fun K19 kh19 => ?_
          refine f_region ?_
          refine f_stepP rfl rfl rfl (o_move rfl) ?_
          refine f_stepP rfl rfl rfl (o_assign rfl) ?_
          refine f_done ?_
          refine f_tn (kh19 _ _ ?_)
          clear kh19
          refine f_seq fun K20 kh20 => ?_
          refine f_region ?_
          refine f_stepP rfl rfl rfl (o_move rfl) ?_
          refine f_stepP rfl rfl rfl (o_move rfl) ?_
          refine f_stepP rfl rfl rfl (o_move rfl) ?_
          refine f_stepP rfl rfl rfl (o_move rfl) ?_
          have hin : i < n := by omega
          obtain ⟨bk, ok, rfl, hSk, hck⟩ := hr (map_ne (show i < keys.length by omega))
          refine f_stepP rfl rfl rfl (o_idx sl22 rfl rfl (ok + i) ⟨by omega, by omega, by first | omega | (simp; done) | (simp; omega)⟩) ?_
          refine f_stepP rfl rfl rfl (o_load Try.isAgg29 rfl (roOne (enc := (.int .u64 ·)) hSk hck (by omega))) ?_
          refine f_step rfl rfl rfl (o_callM [hma] _ Try.call10 rfl (Sub.pick Sub.refl) (fun w_ hp_ => Lower_spec (fillT n keys i) ba hma (i : Int) keys[i] w_ hHa hp_.owns) ?_)
          rintro _ _ ⟨rfl, hma2, rfl, hHa2⟩
          rw [with_next hin (by omega)] at hHa2
          dsimp only [List.cons_append, List.nil_append]
          refine f_done ?_
          refine f_tn (kh20 _ _ ?_)
          clear kh20
          refine f_seq fun K21 kh21 => ?_
          refine f_region ?_
          refine f_stepP rfl rfl rfl (o_move rfl) ?_
          refine f_stepP rfl rfl rfl (o_move rfl) ?_
          refine f_stepP rfl rfl rfl (o_neq rfl rfl) ?_
          refine f_done ?_
          refine f_tn (kh21 _ _ ?_)
          clear kh21
          refine f_cond rfl (fun c66 => ?_) (fun c66 => ?_)
          · skip
            refine f_region ?_
            refine f_stepP rfl rfl rfl (o_move rfl) ?_
            refine f_stepP rfl rfl rfl (o_move rfl) ?_
            refine f_stepP rfl rfl rfl (o_move rfl) ?_
            refine f_stepP rfl rfl rfl (o_move rfl) ?_
            refine f_stepP rfl rfl rfl (o_idx sl22 rfl rfl (ok + i) ⟨by omega, by omega, by first | omega | (simp; done) | (simp; omega)⟩) ?_
            refine f_stepP rfl rfl rfl (o_load Try.isAgg29 rfl (roOne (enc := (.int .u64 ·)) hSk hck (by omega))) ?_
            refine f_step rfl rfl rfl (o_callM [hmb] _ Try.call10 rfl (Sub.pick Sub.refl) (fun w_ hp_ => Lower_spec ((fillT n keys i).set d none) bb hmb (i : Int) keys[i] w_ hHb hp_.owns) ?_)
            rintro _ _ ⟨rfl, hmb2, rfl, hHb2⟩
            rw [without_next hin (by omega) (by omega)] at hHb2
            dsimp only [List.cons_append, List.nil_append]
            refine f_done ?_
            refine f_bn ?_
            refine f_tn (kh18 _ _ ?_)
            clear kh18
            refine f_region ?_
            refine f_stepP rfl rfl rfl (o_add rfl rfl _ (wrap_i64 (by omega))) ?_
            refine f_stepP rfl rfl rfl (o_move rfl) ?_
            refine f_done ?_
            refine f_tn (f_again (i + 1, hma2, hmb2) (by first | omega | (dsimp only; omega) | (simp; omega)) ⟨by omega, hHa2, hHb2⟩ ?_ ?_ ?_)
            · exact (by repeat (first | exact trivial | refine ⟨rfl, ?_⟩))
            · exact (by repeat (first | exact trivial | refine ⟨rfl, ?_⟩))
            · repeat (first | exact Sub.nil | refine Sub.pick ?_ | refine Sub.castO rfl ?_ | refine Sub.skip ?_)
          · skip
            refine f_skip ?_
            refine f_bn ?_
            refine f_tn (kh18 _ _ ?_)
            clear kh18
            refine f_region ?_
            refine f_stepP rfl rfl rfl (o_add rfl rfl _ (wrap_i64 (by omega))) ?_
            refine f_stepP rfl rfl rfl (o_move rfl) ?_
            refine f_done ?_
            refine f_tn (f_again (i + 1, hma2, hmb) (by first | omega | (dsimp only; omega) | (simp; omega)) ⟨by omega, hHa2, by rw [without_eq (d := d) (by omega) (by omega) (by omega)] at hHb; exact hHb⟩ ?_ ?_ ?_)
            · exact (by repeat (first | exact trivial | refine ⟨rfl, ?_⟩))
            · exact (by repeat (first | exact trivial | refine ⟨rfl, ?_⟩))
            · repeat (first | exact Sub.nil | refine Sub.pick ?_ | refine Sub.castO rfl ?_ | refine Sub.skip ?_)
        · skip
          refine f_exit ?_
          refine f_te ?_
          clear kh17
          refine f_te ?_
          refine f_be ?_
          refine f_tn (kh14 _ _ ?_)
          clear kh14
          refine f_seq fun K22 kh22 => ?_
          refine f_seq fun K23 kh23 => ?_
          obtain rfl : n = i := by omega
          refine f_region ?_
          refine f_stepP rfl rfl rfl (o_move rfl) ?_
          refine f_stepP rfl rfl rfl (o_move rfl) ?_
          refine f_step rfl rfl rfl (o_callM [hma] _ Try.call16 rfl (Sub.pick Sub.refl) (fun w_ hp_ => Drop_spec (fillT n keys n) ba hma (d : Int) w_ hHa hp_.owns) ?_)
          rintro _ _ ⟨rfl, hma2, rfl, hHa2⟩
          have hfs := fillT_some (n := n) (keys := keys) hdn (by omega)
          rw [drop_yes (by rw [fillT_len]; exact hdn) hfs] at hHa2 ⊢
          have htc := tcount_pop hfs
          rw [fill_count (by omega)] at htc
          dsimp only [List.cons_append, List.nil_append]
          refine f_stepP rfl rfl rfl (o_move rfl) ?_
          refine f_stepP rfl rfl rfl (o_extract rfl rfl) ?_
          refine f_stepP rfl rfl rfl (o_extract rfl rfl) ?_
          refine f_stepP rfl rfl rfl (o_assign rfl) ?_
          refine f_stepP rfl rfl rfl (o_assign rfl) ?_
          refine f_done ?_
          refine f_tn (kh23 _ _ ?_)
          clear kh23
          refine f_seq fun K24 kh24 => ?_
          refine f_region ?_
          refine f_stepP rfl rfl rfl (o_move rfl) ?_
          refine f_stepP rfl rfl rfl (o_not rfl) ?_
          refine f_stepP rfl rfl rfl (o_move rfl) ?_
          refine f_stepPY rfl rfl rfl rfl rfl (o_move rfl) ?_
          refine f_stepPY rfl rfl rfl rfl rfl (o_neq rfl rfl) ?_
          refine f_stepP rfl rfl rfl (o_pickF rfl rfl) ?_
          refine f_stepP rfl rfl rfl (o_move rfl) ?_
          refine f_splitL 87 rfl (fun g87 => ?_) (fun g87 => ?_)
          · skip
            refine f_stepN rfl rfl rfl rfl rfl rfl ?_
            refine f_stepN rfl rfl rfl rfl rfl rfl ?_
            refine f_stepN rfl rfl rfl rfl rfl rfl ?_
            refine f_stepN rfl rfl rfl rfl rfl rfl ?_
            refine f_stepN rfl rfl rfl rfl rfl rfl ?_
            refine f_stepP rfl rfl rfl (o_pickT rfl rfl) ?_
            refine f_done ?_
            refine f_tn (kh24 _ _ ?_)
            clear kh24
            refine f_condT rfl ?_
            refine f_seq fun K25 kh25 => ?_
            refine f_region ?_
            refine f_stepP rfl rfl rfl (o_assign rfl) ?_
            refine f_done ?_
            refine f_tn (kh25 _ _ ?_)
            clear kh25
            refine f_ret ?_
            refine f_tr ?_
            exact f_fin1 [] Try.results5 rfl Sub.nil ⟨by congr 1; exact decide_eq_true (by omega), rfl⟩
          · skip
            refine f_stepPY rfl rfl rfl rfl rfl (o_move rfl) ?_
            refine f_stepY rfl rfl rfl rfl rfl (o_callM [hma2] _ Try.call11 rfl (Sub.pick Sub.refl) (fun w_ hp_ => Len_spec ((fillT n keys n).set d none) ba hma2 w_ hHa2 hp_.owns) ?_)
            rintro _ _ ⟨rfl, rfl⟩
            dsimp only [List.cons_append, List.nil_append]
            refine f_stepPY rfl rfl rfl rfl rfl (o_move rfl) ?_
            refine f_stepPY rfl rfl rfl rfl rfl (o_sub rfl rfl _ (wrap_i64 (by omega))) ?_
            refine f_stepPY rfl rfl rfl rfl rfl (o_neq rfl rfl) ?_
            refine f_stepP rfl rfl rfl (o_pickF rfl rfl) ?_
            refine f_done ?_
            refine f_tn (kh24 _ _ ?_)
            clear kh24
            refine f_condN rfl (by omega) ?_
            refine f_skip ?_
            refine f_tn (kh22 _ _ ?_)
            clear kh22
            refine f_seq fun K26 kh26 => ?_
            refine f_seq fun K27 kh27 => ?_
            refine f_region ?_
            refine f_stepP rfl rfl rfl (o_move rfl) ?_
            refine f_stepP rfl rfl rfl (o_move rfl) ?_
            refine f_done ?_
            refine f_tn (kh27 _ _ ?_)
            clear kh27
            refine f_block ?_
            refine f_loop (α := Nat × List (Option Int) × Seg × Seg) [6, 8, 94] (fun ⟨i, T, hma, hmb⟩ => [(95, .int .i64 (i : Int))]) (fun ⟨i, T, hma, hmb⟩ => [hma, hmb]) (fun ⟨i, T, hma, hmb⟩ => i ≤ n ∧ HRep T ba hma ∧ HRep T bb hmb ∧ tcount T = n - 1 - i) (fun ⟨i, T, hma, hmb⟩ => n - i) (0, (fillT n keys n).set d none, hma2, hmb) ?_ ?_ ?_ ?_
            · exact (by repeat (first | exact trivial | refine ⟨rfl, ?_⟩))
            · repeat (first | exact Sub.nil | refine Sub.pick ?_ | refine Sub.castO rfl ?_ | refine Sub.skip ?_)
            · exact ⟨by omega, hHa2, hHb, by omega⟩
            · clear hHa hHb
              rintro ⟨i, T, hma, hmb⟩ ⟨hi0, hHa, hHb, hcn⟩
              refine f_seq fun K28 kh28 => ?_
              refine f_region ?_
              refine f_stepP rfl rfl rfl (o_lss rfl rfl) ?_
              refine f_done ?_
              refine f_tn (kh28 _ _ ?_)
              clear kh28
              refine f_seq fun K29 kh29 => ?_
              refine f_cond rfl (fun c96 => ?_) (fun c96 => ?_)
              · skip
                refine f_skip ?_
                refine f_tn (kh29 _ _ ?_)
                clear kh29
                refine f_seq fun K30 kh30 => ?_
                refine f_block ?_
                refine f_seq fun K31 kh31 => ?_
                refine f_region ?_
                refine f_stepP rfl rfl rfl (o_move rfl) ?_
                refine f_step rfl rfl rfl (o_callM [hma] _ Try.call12 rfl (Sub.pick Sub.refl) (fun w_ hp_ => HPop_spec T ba hma w_ hHa hp_.owns) ?_)
                rintro _ _ ⟨rfl, hma2, rfl, hHa2⟩
                dsimp only [List.cons_append, List.nil_append]
                refine f_stepP rfl rfl rfl (o_move rfl) ?_
                refine f_stepP rfl rfl rfl (o_extract rfl rfl) ?_
                refine f_stepP rfl rfl rfl (o_extract rfl rfl) ?_
                refine f_stepP rfl rfl rfl (o_extract rfl rfl) ?_
                refine f_stepP rfl rfl rfl (o_assign rfl) ?_
                refine f_stepP rfl rfl rfl (o_assign rfl) ?_
                refine f_stepP rfl rfl rfl (o_assign rfl) ?_
                refine f_done ?_
                refine f_tn (kh31 _ _ ?_)
                clear kh31
                refine f_seq fun K32 kh32 => ?_
                refine f_region ?_
                refine f_stepP rfl rfl rfl (o_move rfl) ?_
                refine f_step rfl rfl rfl (o_callM [hmb] _ Try.call12 rfl (Sub.pick Sub.refl) (fun w_ hp_ => HPop_spec T bb hmb w_ hHb hp_.owns) ?_)
                rintro _ _ ⟨rfl, hmb2, rfl, hHb2⟩
                dsimp only [List.cons_append, List.nil_append]
                refine f_stepP rfl rfl rfl (o_move rfl) ?_
                refine f_stepP rfl rfl rfl (o_extract rfl rfl) ?_
                refine f_stepP rfl rfl rfl (o_extract rfl rfl) ?_
                refine f_stepP rfl rfl rfl (o_extract rfl rfl) ?_
                refine f_stepP rfl rfl rfl (o_assign rfl) ?_
                refine f_stepP rfl rfl rfl (o_assign rfl) ?_
                refine f_stepP rfl rfl rfl (o_assign rfl) ?_
                refine f_done ?_
                refine f_tn (kh32 _ _ ?_)
                clear kh32
                refine f_seq fun K33 kh33 => ?_
                refine f_region ?_
                refine f_stepP rfl rfl rfl (o_move rfl) ?_
                refine f_stepP rfl rfl rfl (o_move rfl) ?_
                refine f_stepP rfl rfl rfl (o_neq rfl rfl) ?_
                refine f_stepP rfl rfl rfl (o_move rfl) ?_
                refine f_falseL 112 rfl (by simp) ?_
                refine f_stepPY rfl rfl rfl rfl rfl (o_move rfl) ?_
                refine f_stepPY rfl rfl rfl rfl rfl (o_move rfl) ?_
                refine f_stepPY rfl rfl rfl rfl rfl (o_neq rfl rfl) ?_
                refine f_stepP rfl rfl rfl (o_pickF rfl rfl) ?_
                refine f_stepP rfl rfl rfl (o_move rfl) ?_
                refine f_falseL 117 rfl (by simp) ?_
                refine f_stepPY rfl rfl rfl rfl rfl (o_move rfl) ?_
                refine f_stepPY rfl rfl rfl rfl rfl (o_move rfl) ?_
                refine f_stepPY rfl rfl rfl rfl rfl (o_neq rfl rfl) ?_
                refine f_stepP rfl rfl rfl (o_pickF rfl rfl) ?_
                refine f_done ?_
                refine f_tn (kh33 _ _ ?_)
                clear kh33
                refine f_condN rfl (by simp) ?_
                refine f_skip ?_
                refine f_bn ?_
                refine f_tn (kh30 _ _ ?_)
                clear kh30
                refine f_region ?_
                refine f_stepP rfl rfl rfl (o_add rfl rfl _ (wrap_i64 (by omega))) ?_
                refine f_stepP rfl rfl rfl (o_move rfl) ?_
                refine f_done ?_
                refine f_tn (f_again (i + 1, popT T, hma2, hmb2) (by first | omega | (dsimp only; omega) | (simp; omega)) ⟨by omega, hHa2, hHb2, by rw [tcount_popT]; omega⟩ ?_ ?_ ?_)
                · exact (by repeat (first | exact trivial | refine ⟨rfl, ?_⟩))
                · exact (by repeat (first | exact trivial | refine ⟨rfl, ?_⟩))
                · repeat (first | exact Sub.nil | refine Sub.pick ?_ | refine Sub.castO rfl ?_ | refine Sub.skip ?_)
              · skip
                refine f_exit ?_
                refine f_te ?_
                clear kh29
                refine f_te ?_
                refine f_be ?_
                refine f_tn (kh26 _ _ ?_)
                clear kh26
                refine f_seq fun K34 kh34 => ?_
                refine f_region ?_
                refine f_stepP rfl rfl rfl (o_move rfl) ?_
                refine f_step rfl rfl rfl (o_callM [hma] _ Try.call11 rfl (Sub.pick Sub.refl) (fun w_ hp_ => Len_spec T ba hma w_ hHa hp_.owns) ?_)
                rintro _ _ ⟨rfl, rfl⟩
                dsimp only [List.cons_append, List.nil_append]
                refine f_stepP rfl rfl rfl (o_eql rfl rfl) ?_
                refine f_stepP rfl rfl rfl (o_move rfl) ?_
                refine f_trueL 126 rfl (by omega) ?_
                refine f_stepPY rfl rfl rfl rfl rfl (o_move rfl) ?_
                refine f_stepY rfl rfl rfl rfl rfl (o_callM [hmb] _ Try.call11 rfl (Sub.pick Sub.refl) (fun w_ hp_ => Len_spec T bb hmb w_ hHb hp_.owns) ?_)
                rintro _ _ ⟨rfl, rfl⟩
                dsimp only [List.cons_append, List.nil_append]
                refine f_stepPY rfl rfl rfl rfl rfl (o_eql rfl rfl) ?_
                refine f_stepP rfl rfl rfl (o_pickT rfl rfl) ?_
                refine f_stepP rfl rfl rfl (o_assign rfl) ?_
                refine f_done ?_
                refine f_tn (kh34 _ _ ?_)
                clear kh34
                refine f_ret ?_
                exact f_fin1 [] Try.results5 rfl Sub.nil ⟨by congr 1; exact decide_eq_true (by omega), rfl⟩

end Go.Proofs.Ytpooabplhgdfmaa
