/- flyoverlaw04.HeapLeast answers true. -/
import Derived.Test.YtpooabplhgdfmaaFSorts4
import Derived.Test.YtpooabplhgdfmaaFlyR
namespace Go.Proofs.Ytpooabplhgdfmaa
open Go Go.RowKit Fly
set_option linter.unusedVariables false
set_option linter.unusedSimpArgs false


structure HAct where
  kind : Int
  id : Int
  key : Int
def hactCs (x : HAct) : List Value := [.int .i64 x.kind, .int .i64 x.id, .int .u64 x.key]
theorem hactCs_len (x : HAct) : (hactCs x).length = 3 := rfl
structure HActOk (x : HAct) : Prop where
  kind : I64 x.kind
  id : I64 x.id
  key : 0 ≤ x.key ∧ x.key ≤ 18446744073709551615
theorem rdHAct {H : Type} {enc : TypeId × Value → H} (W : World) : Reads enc Try.prog W 40 hactCs HActOk :=
  (reads3 Try.underlying40 (by kernel_rfl) ⟨rfl, by kernel_rfl⟩ ⟨rfl, by kernel_rfl⟩ ⟨rfl, by kernel_rfl⟩ (ca := fun n => .int .i64 n) (cb := fun n => .int .i64 n) (cc := fun n => .int .u64 n) (reads_int Try.underlying3) (reads_int Try.underlying3) (reads_int Try.underlying29)).map (fun x => (⟨x.1, x.2.1, x.2.2⟩ : HAct)) (fun x => rfl)
    fun x hx => ⟨i64_wf hx.1, i64_wf hx.2.1, u64_wf hx.2.2⟩
theorem key_ok {T : List (Option Int)} {k : Nat} (hk : k < T.length) : (keyA T (k : Int)).2.2 = 0 := by
  unfold keyA; rw [if_pos (by omega)]; split <;> rfl
theorem key_is {T : List (Option Int)} {k : Nat} (hk : k < T.length) : (keyA T (k : Int)).2.1 = (T[k]).isSome := by
  have hT : T[k]? = some T[k] := List.getElem?_eq_getElem hk
  cases e : T[k] with
  | none => rw [e] at hT; rw [key_no hk hT]; rfl
  | some x => rw [e] at hT; rw [key_yes hk hT]; rfl
theorem key_true {T : List (Option Int)} {k : Nat} (hk : k < T.length) (h : (keyA T (k : Int)).2.1 = true) : ∃ x, T[k]? = some (some x) ∧ keyA T (k : Int) = (x, true, 0) := by
  rw [key_is hk] at h
  obtain ⟨x, hx⟩ := Option.isSome_iff_exists.1 h
  have hT : T[k]? = some (some x) := by rw [List.getElem?_eq_getElem hk, hx]
  exact ⟨x, hT, key_yes hk hT⟩
theorem count_yes {T : List (Option Int)} {k x} (h : T[k]? = some (some x)) : (T.take (k + 1)).countP Option.isSome = (T.take k).countP Option.isSome + 1 := by
  have hk : k < T.length := (List.getElem?_eq_some_iff.1 h).1
  have hv : T[k] = some x := by rw [List.getElem?_eq_getElem hk] at h; exact Option.some.inj h
  rw [List.take_succ_eq_append_getElem hk, List.countP_append, hv]; rfl
theorem count_no {T : List (Option Int)} {k : Nat} (hk : k < T.length) (h : (keyA T (k : Int)).2.1 = false) : (T.take (k + 1)).countP Option.isSome = (T.take k).countP Option.isSome := by
  rw [key_is hk] at h
  rw [List.take_succ_eq_append_getElem hk, List.countP_append]
  simp [h]
theorem topA_err {T : List (Option Int)} : ((topA T).2.2 = 0) ↔ 0 < tcount T := by
  cases e : topR T with
  | none => rw [topA_none e, topFrom_none e]; simp
  | some p =>
    obtain ⟨k, x⟩ := p
    rw [topA_some e]
    have := tcount_pop (topR_some e).1
    simp; omega
theorem last_ok {T : List (Option Int)} {many : Nat} (h : many = tcount T) : ¬ (decide ((topA T).2.2 = 0) ≠ decide ((0 : Int) < (many : Int))) := by
  have := topA_err (T := T)
  intro hne
  apply hne
  exact decide_eq_decide.2 (this.trans (by omega))

set_option maxRecDepth 100000 in
set_option maxHeartbeats 4000000 in
theorem HeapLeast_spec (n0 : Int) (A : Option Addr) (acts : List HAct) (cap : Nat) (w : World) (hr : Ro (Fr w []) w A (acts.flatMap hactCs)) (hl : acts.length ≤ 9223372036854775807) :
    Meets Try.prog 4 [.int .i64 n0, .slice A acts.length cap] w [] (fun u m => u = .bool true ∧ m = []) := by
  refine f_enter Try.func4 rfl Try.ntmps4 rfl Owns.nil ?_
  refine f_seq fun K1 kh1 => ?_
  refine f_region ?_
  refine f_stepP rfl rfl rfl (o_assign rfl) ?_
  refine f_done ?_
  refine f_tn (kh1 _ _ ?_)
  clear kh1
  refine f_seq fun K2 kh2 => ?_
  refine f_seq fun K3 kh3 => ?_
  refine f_region ?_
  refine f_step rfl rfl rfl (o_call Try.call8 rfl (fun w_ hp_ => works_spec w_) ?_)
  rintro _ _ ⟨rfl, rfl⟩
  dsimp only [List.cons_append, List.nil_append]
  refine f_stepP rfl rfl rfl (o_not rfl) ?_
  refine f_done ?_
  refine f_tn (kh3 _ _ ?_)
  clear kh3
  refine f_condF rfl ?_
  refine f_skip ?_
  refine f_tn (kh2 _ _ ?_)
  clear kh2
  refine f_seq fun K4 kh4 => ?_
  refine f_region ?_
  refine f_stepP rfl rfl rfl (o_move rfl) ?_
  refine f_step rfl rfl rfl (o_call Try.call13 rfl (fun w_ hp_ => among_spec n0 40 w_ (by decide)) ?_)
  rintro _ _ ⟨rfl, rfl⟩
  obtain ⟨n, hn⟩ : ∃ n : Nat, n0 % 40 = (n : Int) := ⟨(n0 % 40).toNat, by omega⟩
  rw [hn]
  dsimp only [List.cons_append, List.nil_append]
  refine f_stepP rfl rfl rfl (o_assign rfl) ?_
  refine f_done ?_
  refine f_tn (kh4 _ _ ?_)
  clear kh4
  refine f_seq fun K5 kh5 => ?_
  refine f_region ?_
  refine f_stepP rfl rfl rfl (o_move rfl) ?_
  refine f_step rfl rfl rfl (o_call Try.call9 rfl (fun w_ hp_ => New_spec (n : Int) w_) ?_)
  rintro _ _ hN
  rw [NewΦ, if_neg (by omega), Int.toNat_natCast] at hN
  obtain ⟨bH, hm1, rfl, rfl, hH1⟩ := hN
  dsimp only [List.cons_append, List.nil_append]
  refine f_stepP rfl rfl rfl (o_move rfl) ?_
  refine f_stepP rfl rfl rfl (o_extract rfl rfl) ?_
  refine f_stepP rfl rfl rfl (o_extract rfl rfl) ?_
  refine f_stepP rfl rfl rfl (o_assign rfl) ?_
  refine f_stepP rfl rfl rfl (o_assign rfl) ?_
  refine f_done ?_
  refine f_tn (kh5 _ _ ?_)
  clear kh5
  refine f_seq fun K6 kh6 => ?_
  refine f_seq fun K7 kh7 => ?_
  refine f_region ?_
  refine f_stepP rfl rfl rfl (o_move rfl) ?_
  refine f_stepP rfl rfl rfl (o_eqlN (by kernel_rfl) rfl rfl) ?_
  refine f_stepP rfl rfl rfl (o_move rfl) ?_
  refine f_stepPY rfl rfl rfl rfl rfl (o_move rfl) ?_
  refine f_stepPY rfl rfl rfl rfl rfl (o_neq rfl rfl) ?_
  refine f_stepP rfl rfl rfl (o_pickF rfl rfl) ?_
  refine f_done ?_
  refine f_tn (kh7 _ _ ?_)
  clear kh7
  refine f_condN rfl (by simp) ?_
  refine f_skip ?_
  refine f_tn (kh6 _ _ ?_)
  clear kh6
  refine f_seq fun K8 kh8 => ?_
  refine f_seq fun K9 kh9 => ?_
  refine f_region ?_
  refine f_stepP rfl rfl rfl (o_assign rfl) ?_
  refine f_done ?_
  refine f_tn (kh9 _ _ ?_)
  clear kh9
  refine f_block ?_
  refine f_loop (α := Nat × List (Option Int) × Seg) [0, 1, 5] (fun ⟨i, T, hm⟩ => [(7, .int .i64 (i : Int))]) (fun ⟨i, T, hm⟩ => [hm]) (fun ⟨i, T, hm⟩ => i ≤ acts.length ∧ HRep T bH hm ∧ T.length = n) (fun ⟨i, T, hm⟩ => acts.length - i) (0, List.replicate n none, hm1) ?_ ?_ ?_ ?_
  · exact (by repeat (first | exact trivial | refine ⟨rfl, ?_⟩))
  · repeat (first | exact Sub.nil | refine Sub.pick ?_ | refine Sub.castO rfl ?_ | refine Sub.skip ?_)
  · exact ⟨by omega, hH1, by simp⟩
  · rintro ⟨i, T, hm⟩ ⟨hia, hH, hTn⟩
    refine f_seq fun K10 kh10 => ?_
    refine f_seq fun K11 kh11 => ?_
    refine f_region ?_
    refine f_stepP rfl rfl rfl (o_move rfl) ?_
    refine f_stepP rfl rfl rfl (o_move rfl) ?_
    refine f_stepP rfl rfl rfl (o_len sl37 rfl) ?_
    refine f_stepP rfl rfl rfl (o_lss rfl rfl) ?_
    refine f_stepP rfl rfl rfl (o_move rfl) ?_
    refine f_splitL 36 rfl (fun g36 => ?_) (fun g36 => ?_)
    · skip
      refine f_stepPY rfl rfl rfl rfl rfl (o_move rfl) ?_
      refine f_stepPY rfl rfl rfl rfl rfl (o_lss rfl rfl) ?_
      refine f_stepP rfl rfl rfl (o_pickT rfl rfl) ?_
      refine f_done ?_
      refine f_tn (kh11 _ _ ?_)
      clear kh11
      refine f_cond rfl (fun c39 => ?_) (fun c39 => ?_)
      · skip
        refine f_skip ?_
        refine f_tn (kh10 _ _ ?_)
        clear kh10
        refine f_seq fun K12 kh12 => ?_
        refine f_block ?_
        refine f_seq fun K13 kh13 => ?_
        refine f_region ?_
        refine f_stepP rfl rfl rfl (o_move rfl) ?_
        refine f_stepP rfl rfl rfl (o_move rfl) ?_
        have hi : i < acts.length := by omega
        obtain ⟨bl, off, rfl, hS, hc⟩ := hr (flat_ne hactCs hactCs_len (by omega) hi)
        refine f_stepP rfl rfl rfl (o_idx sl37 rfl rfl (off + i * 3) ⟨by omega, by omega, by first | omega | (simp; done) | (simp; omega)⟩) ?_
        refine f_stepP rfl rfl rfl (o_loadA (vs := hactCs acts[i]) Try.isAgg40 Try.sizeOf40 rfl rfl (roElem hactCs_len hS hc hi)) ?_
        refine f_step rfl rfl rfl (o_alloc Try.zeroValue40 rfl fun b8 => ?_)
        refine f_step0 rfl rfl (o_storeA Try.sizeOf40 rfl rfl rfl rfl (by first | exact Nat.le_of_ble_eq_true rfl | (simp; done) | (simp; omega)) _ rfl ?_)
        refine f_done ?_
        refine f_tn (kh13 _ _ ?_)
        clear kh13
        refine f_meet (α := List (Option Int) × Seg) [0, 1, 5, 7] (fun ⟨T, hm⟩ => []) (fun ⟨T, hm⟩ => [hm]) (fun ⟨T, hm⟩ => HRep T bH hm ∧ T.length = n) ?_ ?_
        · intro K14 kh14
          refine f_seq fun K15 kh15 => ?_
          refine f_region ?_
          refine f_stepP rfl rfl rfl (o_field fa40_0 rfl) ?_
          refine f_stepP rfl rfl rfl (o_load Try.isAgg3 rfl (rdA rfl)) ?_
          refine f_step rfl rfl rfl (o_call Try.call13 rfl (fun w_ hp_ => among_spec acts[i].kind 4 w_ (by decide)) ?_)
          rintro _ _ ⟨rfl, rfl⟩
          dsimp only [List.cons_append, List.nil_append]
          refine f_stepP rfl rfl rfl (o_eql rfl rfl) ?_
          refine f_done ?_
          refine f_tn (kh15 _ _ ?_)
          clear kh15
          refine f_cond rfl (fun c49 => ?_) (fun c49 => ?_)
          · skip
            refine f_region ?_
            refine f_stepP rfl rfl rfl (o_move rfl) ?_
            refine f_step rfl rfl rfl (o_callM [hm] _ Try.call12 rfl (Sub.pick Sub.refl) (fun w_ hp_ => HPop_spec T bH hm w_ hH hp_.owns) ?_)
            rintro _ _ ⟨rfl, hm2, rfl, hH2⟩
            dsimp only [List.cons_append, List.nil_append]
            refine f_done ?_
            refine f_tn (kh14 _ _ (popT T, hm2) ⟨hH2, by rw [popT_len]; exact hTn⟩ ?_ ?_ ?_)
            · exact (by repeat (first | exact trivial | refine ⟨rfl, ?_⟩))
            · exact (by repeat (first | exact trivial | refine ⟨rfl, ?_⟩))
            · repeat (first | exact Sub.nil | refine Sub.pick ?_ | refine Sub.castO rfl ?_ | refine Sub.skip ?_)
          · skip
            refine f_regionH [[(b8, blk (hactCs acts[i]) 40)]] rfl ?_
            refine f_take 0 rfl (by decide +kernel) rfl rfl rfl (by repeat (first | exact Sub.nil | refine Sub.pick ?_ | refine Sub.castO rfl ?_ | refine Sub.skip ?_)) (o_move rfl) ?_
            refine f_take 1 rfl (by decide +kernel) rfl rfl rfl (by repeat (first | exact Sub.nil | refine Sub.pick ?_ | refine Sub.castO rfl ?_ | refine Sub.skip ?_)) (o_field fa40_1 rfl) ?_
            refine f_take 2 rfl (by decide +kernel) rfl rfl rfl (by repeat (first | exact Sub.nil | refine Sub.pick ?_ | refine Sub.castO rfl ?_ | refine Sub.skip ?_)) (o_load Try.isAgg3 rfl (rdA rfl)) ?_
            refine f_take 3 rfl (by decide +kernel) rfl rfl rfl (by repeat (first | exact Sub.nil | refine Sub.pick ?_ | refine Sub.castO rfl ?_ | refine Sub.skip ?_)) (o_move rfl) ?_
            refine f_take 4 rfl (by decide +kernel) rfl rfl rfl (by repeat (first | exact Sub.nil | refine Sub.pick ?_ | refine Sub.castO rfl ?_ | refine Sub.skip ?_)) (o_add rfl rfl _ (wrap_i64 (by omega))) ?_
            refine f_take 6 rfl (by decide +kernel) rfl rfl rfl (by repeat (first | exact Sub.nil | refine Sub.pick ?_ | refine Sub.castO rfl ?_ | refine Sub.skip ?_)) (o_field fa40_2 rfl) ?_
            refine f_take 7 rfl (by decide +kernel) rfl rfl rfl (by repeat (first | exact Sub.nil | refine Sub.pick ?_ | refine Sub.castO rfl ?_ | refine Sub.skip ?_)) (o_load Try.isAgg29 rfl (rdA rfl)) ?_
            refine f_only 5 rfl (by decide +kernel) rfl rfl rfl (o_call Try.call13 rfl (fun w_ hp_ => among_spec acts[i].id ((n : Int) + 1) w_ (by omega)) ?_)
            rintro _ _ ⟨rfl, rfl⟩
            dsimp only [List.cons_append, List.nil_append]
            refine ⟨(by repeat (first | exact Sub.nil | refine Sub.pick ?_ | refine Sub.castO rfl ?_ | refine Sub.skip ?_)), ?_⟩
            refine f_only 8 rfl (by decide +kernel) rfl rfl rfl (o_callM [hm] _ Try.call10 rfl (Sub.pick Sub.refl) (fun w_ hp_ => Lower_spec T bH hm (acts[i].id % ((n : Int) + 1)) acts[i].key w_ hH hp_.owns) ?_)
            rintro _ _ ⟨rfl, hm2, rfl, hH2⟩
            dsimp only [List.cons_append, List.nil_append]
            refine ⟨(by repeat (first | exact Sub.nil | refine Sub.pick ?_ | refine Sub.castO rfl ?_ | refine Sub.skip ?_)), ?_⟩
            refine f_over (by decide +kernel) ?_
            refine f_tn (kh14 _ _ ((lowerR T (acts[i].id % ((n : Int) + 1)) acts[i].key).1, hm2) ⟨hH2, by rw [lowerR_len]; exact hTn⟩ ?_ ?_ ?_)
            · exact (by repeat (first | exact trivial | refine ⟨rfl, ?_⟩))
            · exact (by repeat (first | exact trivial | refine ⟨rfl, ?_⟩))
            · repeat (first | exact Sub.nil | refine Sub.pick ?_ | refine Sub.castO rfl ?_ | refine Sub.skip ?_)
        · clear hH hTn
          rintro ⟨T, hm⟩ ⟨hH, hTn⟩
          refine f_seq fun K16 kh16 => ?_
          refine f_region ?_
          refine f_stepP rfl rfl rfl (o_move rfl) ?_
          refine f_step rfl rfl rfl (o_callM [hm] _ Try.call14 rfl (Sub.pick Sub.refl) (fun w_ hp_ => Top_spec T bH hm w_ hH hp_.owns) ?_)
          rintro _ _ ⟨rfl, rfl⟩
          dsimp only [List.cons_append, List.nil_append]
          refine f_stepP rfl rfl rfl (o_move rfl) ?_
          refine f_stepP rfl rfl rfl (o_extract rfl rfl) ?_
          refine f_stepP rfl rfl rfl (o_extract rfl rfl) ?_
          refine f_stepP rfl rfl rfl (o_extract rfl rfl) ?_
          refine f_stepP rfl rfl rfl (o_assign rfl) ?_
          refine f_stepP rfl rfl rfl (o_assign rfl) ?_
          refine f_stepP rfl rfl rfl (o_assign rfl) ?_
          refine f_done ?_
          refine f_tn (kh16 _ _ ?_)
          clear kh16
          refine f_seq fun K17 kh17 => ?_
          refine f_region ?_
          refine f_stepP rfl rfl rfl (o_assign rfl) ?_
          refine f_done ?_
          refine f_tn (kh17 _ _ ?_)
          clear kh17
          refine f_seq fun K18 kh18 => ?_
          refine f_seq fun K19 kh19 => ?_
          refine f_region ?_
          refine f_stepP rfl rfl rfl (o_assign rfl) ?_
          refine f_done ?_
          refine f_tn (kh19 _ _ ?_)
          clear kh19
          refine f_block ?_
          refine f_loop (α := Nat × Nat) [0, 1, 5, 7, 9, 10, 11] (fun ⟨k, many⟩ => [(13, .int .i64 (k : Int)), (12, .int .i64 (many : Int))]) (fun ⟨k, many⟩ => [hm]) (fun ⟨k, many⟩ => k ≤ n ∧ many = (T.take k).countP Option.isSome ∧ many ≤ k) (fun ⟨k, many⟩ => n - k) (0, 0) ?_ ?_ ?_ ?_
          · exact (by repeat (first | exact trivial | refine ⟨rfl, ?_⟩))
          · repeat (first | exact Sub.nil | refine Sub.pick ?_ | refine Sub.castO rfl ?_ | refine Sub.skip ?_)
          · exact ⟨by omega, by simp, Nat.le_refl _⟩
          · rintro ⟨k, many⟩ ⟨hkn, hmany, hmk⟩
            refine f_seq fun K20 kh20 => ?_
            refine f_seq fun K21 kh21 => ?_
            refine f_region ?_
            refine f_stepP rfl rfl rfl (o_move rfl) ?_
            refine f_stepP rfl rfl rfl (o_move rfl) ?_
            refine f_stepP rfl rfl rfl (o_lss rfl rfl) ?_
            refine f_done ?_
            refine f_tn (kh21 _ _ ?_)
            clear kh21
            refine f_cond rfl (fun c69 => ?_) (fun c69 => ?_)
            · skip
              refine f_skip ?_
              refine f_tn (kh20 _ _ ?_)
              clear kh20
              refine f_seq fun K22 kh22 => ?_
              refine f_block ?_
              refine f_seq fun K23 kh23 => ?_
              refine f_region ?_
              refine f_stepP rfl rfl rfl (o_move rfl) ?_
              refine f_stepP rfl rfl rfl (o_move rfl) ?_
              refine f_step rfl rfl rfl (o_callM [hm] _ Try.call15 rfl (Sub.pick Sub.refl) (fun w_ hp_ => Key_spec T bH hm (k : Int) w_ hH hp_.owns) ?_)
              rintro _ _ ⟨rfl, rfl⟩
              have hkT : k < T.length := by omega
              have hke := key_ok hkT
              dsimp only [List.cons_append, List.nil_append]
              refine f_stepP rfl rfl rfl (o_move rfl) ?_
              refine f_stepP rfl rfl rfl (o_extract rfl rfl) ?_
              refine f_stepP rfl rfl rfl (o_extract rfl rfl) ?_
              refine f_stepP rfl rfl rfl (o_extract rfl rfl) ?_
              refine f_stepP rfl rfl rfl (o_assign rfl) ?_
              refine f_stepP rfl rfl rfl (o_assign rfl) ?_
              refine f_stepP rfl rfl rfl (o_assign rfl) ?_
              refine f_done ?_
              refine f_tn (kh23 _ _ ?_)
              clear kh23
              refine f_seq fun K24 kh24 => ?_
              refine f_seq fun K25 kh25 => ?_
              refine f_region ?_
              refine f_stepP rfl rfl rfl (o_move rfl) ?_
              refine f_stepP rfl rfl rfl (o_neq rfl rfl) ?_
              refine f_stepP rfl rfl rfl (o_move rfl) ?_
              refine f_falseL 81 rfl (by simpa using hke) ?_
              refine f_stepPY rfl rfl rfl rfl rfl (o_move rfl) ?_
              refine f_stepPY rfl rfl rfl rfl rfl (o_move rfl) ?_
              refine f_splitLB 83 rfl (fun g83 => ?_) (fun g83 => ?_)
              · skip
                obtain ⟨x, hx, hkx⟩ := key_true hkT g83
                rw [hkx]
                obtain ⟨k0, x0, ht0⟩ := top_ex (T := T) (by have := tcount_pop hx; omega)
                have htl := (topR_some ht0).2 k x hx
                unfold ele elt at htl
                dsimp only at htl
                have hte : (topA T).2.2 = 0 := by rw [topA_some ht0]
                have hc1 := count_yes hx
                have ht1 : (topA T).1 = (k0 : Int) := by rw [topA_some ht0]
                have ht2 : (topA T).2.1 = x0 := by rw [topA_some ht0]
                refine f_stepPY rfl rfl rfl rfl rfl (o_move rfl) ?_
                refine f_stepPY rfl rfl rfl rfl rfl (o_neq rfl rfl) ?_
                refine f_stepPY rfl rfl rfl rfl rfl (o_move rfl) ?_
                refine f_falseL 86 rfl (by simpa using hte) ?_
                refine f_stepPY rfl rfl rfl rfl rfl (o_move rfl) ?_
                refine f_stepPY rfl rfl rfl rfl rfl (o_move rfl) ?_
                refine f_stepPY rfl rfl rfl rfl rfl (o_lss rfl rfl) ?_
                refine f_stepPY rfl rfl rfl rfl rfl (o_pickF rfl rfl) ?_
                refine f_stepPY rfl rfl rfl rfl rfl (o_move rfl) ?_
                refine f_falseL 91 rfl (by omega) ?_
                refine f_stepPY rfl rfl rfl rfl rfl (o_move rfl) ?_
                refine f_stepPY rfl rfl rfl rfl rfl (o_move rfl) ?_
                refine f_stepPY rfl rfl rfl rfl rfl (o_eql rfl rfl) ?_
                refine f_stepPY rfl rfl rfl rfl rfl (o_move rfl) ?_
                refine f_splitL 95 rfl (fun g95 => ?_) (fun g95 => ?_)
                · skip
                  refine f_stepPY rfl rfl rfl rfl rfl (o_move rfl) ?_
                  refine f_stepPY rfl rfl rfl rfl rfl (o_move rfl) ?_
                  refine f_stepPY rfl rfl rfl rfl rfl (o_lss rfl rfl) ?_
                  refine f_stepPY rfl rfl rfl rfl rfl (o_pickT rfl rfl) ?_
                  refine f_stepPY rfl rfl rfl rfl rfl (o_pickF rfl rfl) ?_
                  refine f_stepPY rfl rfl rfl rfl rfl (o_pickT rfl rfl) ?_
                  refine f_stepP rfl rfl rfl (o_pickF rfl rfl) ?_
                  refine f_done ?_
                  refine f_tn (kh25 _ _ ?_)
                  clear kh25
                  refine f_condN rfl (by omega) ?_
                  refine f_skip ?_
                  refine f_tn (kh24 _ _ ?_)
                  clear kh24
                  refine f_seq fun K26 kh26 => ?_
                  refine f_region ?_
                  refine f_stepP rfl rfl rfl (o_move rfl) ?_
                  refine f_done ?_
                  refine f_tn (kh26 _ _ ?_)
                  clear kh26
                  refine f_condT rfl ?_
                  refine f_region ?_
                  refine f_stepP rfl rfl rfl (o_move rfl) ?_
                  refine f_stepP rfl rfl rfl (o_add rfl rfl _ (wrap_i64 (by omega))) ?_
                  refine f_stepP rfl rfl rfl (o_assign rfl) ?_
                  refine f_done ?_
                  refine f_bn ?_
                  refine f_tn (kh22 _ _ ?_)
                  clear kh22
                  refine f_region ?_
                  refine f_stepP rfl rfl rfl (o_move rfl) ?_
                  refine f_stepP rfl rfl rfl (o_add rfl rfl _ (wrap_i64 (by omega))) ?_
                  refine f_stepP rfl rfl rfl (o_assign rfl) ?_
                  refine f_done ?_
                  refine f_tn (f_again (k + 1, many + 1) (by first | omega | (dsimp only; omega) | (simp; omega)) ⟨by omega, by omega, by omega⟩ ?_ ?_ ?_)
                  · exact (by repeat (first | exact trivial | refine ⟨rfl, ?_⟩))
                  · exact (by repeat (first | exact trivial | refine ⟨rfl, ?_⟩))
                  · repeat (first | exact Sub.nil | refine Sub.pick ?_ | refine Sub.castO rfl ?_ | refine Sub.skip ?_)
                · skip
                  refine f_stepN rfl rfl rfl rfl rfl rfl ?_
                  refine f_stepN rfl rfl rfl rfl rfl rfl ?_
                  refine f_stepN rfl rfl rfl rfl rfl rfl ?_
                  refine f_stepPY rfl rfl rfl rfl rfl (o_pickF rfl rfl) ?_
                  refine f_stepPY rfl rfl rfl rfl rfl (o_pickF rfl rfl) ?_
                  refine f_stepPY rfl rfl rfl rfl rfl (o_pickT rfl rfl) ?_
                  refine f_stepP rfl rfl rfl (o_pickF rfl rfl) ?_
                  refine f_done ?_
                  refine f_tn (kh25 _ _ ?_)
                  clear kh25
                  refine f_condF rfl ?_
                  refine f_skip ?_
                  refine f_tn (kh24 _ _ ?_)
                  clear kh24
                  refine f_seq fun K27 kh27 => ?_
                  refine f_region ?_
                  refine f_stepP rfl rfl rfl (o_move rfl) ?_
                  refine f_done ?_
                  refine f_tn (kh27 _ _ ?_)
                  clear kh27
                  refine f_condT rfl ?_
                  refine f_region ?_
                  refine f_stepP rfl rfl rfl (o_move rfl) ?_
                  refine f_stepP rfl rfl rfl (o_add rfl rfl _ (wrap_i64 (by omega))) ?_
                  refine f_stepP rfl rfl rfl (o_assign rfl) ?_
                  refine f_done ?_
                  refine f_bn ?_
                  refine f_tn (kh22 _ _ ?_)
                  clear kh22
                  refine f_region ?_
                  refine f_stepP rfl rfl rfl (o_move rfl) ?_
                  refine f_stepP rfl rfl rfl (o_add rfl rfl _ (wrap_i64 (by omega))) ?_
                  refine f_stepP rfl rfl rfl (o_assign rfl) ?_
                  refine f_done ?_
                  refine f_tn (f_again (k + 1, many + 1) (by first | omega | (dsimp only; omega) | (simp; omega)) ⟨by omega, by omega, by omega⟩ ?_ ?_ ?_)
                  · exact (by repeat (first | exact trivial | refine ⟨rfl, ?_⟩))
                  · exact (by repeat (first | exact trivial | refine ⟨rfl, ?_⟩))
                  · repeat (first | exact Sub.nil | refine Sub.pick ?_ | refine Sub.castO rfl ?_ | refine Sub.skip ?_)
              · skip
                have hc0 := count_no hkT g83
                rw [g83]
                refine f_stepN rfl rfl rfl rfl rfl rfl ?_
                refine f_stepN rfl rfl rfl rfl rfl rfl ?_
                refine f_stepN rfl rfl rfl rfl rfl rfl ?_
                refine f_stepU rfl rfl rfl rfl rfl ?_
                refine f_stepU rfl rfl rfl rfl rfl ?_
                refine f_stepU rfl rfl rfl rfl rfl ?_
                refine f_stepN rfl rfl rfl rfl rfl rfl ?_
                refine f_stepN rfl rfl rfl rfl rfl rfl ?_
                refine f_stepU rfl rfl rfl rfl rfl ?_
                refine f_stepU rfl rfl rfl rfl rfl ?_
                refine f_stepU rfl rfl rfl rfl rfl ?_
                refine f_stepU rfl rfl rfl rfl rfl ?_
                refine f_stepU rfl rfl rfl rfl rfl ?_
                refine f_stepU rfl rfl rfl rfl rfl ?_
                refine f_stepU rfl rfl rfl rfl rfl ?_
                refine f_stepU rfl rfl rfl rfl rfl ?_
                refine f_stepN rfl rfl rfl rfl rfl rfl ?_
                refine f_stepPY rfl rfl rfl rfl rfl (o_pickF rfl rfl) ?_
                refine f_stepP rfl rfl rfl (o_pickF rfl rfl) ?_
                refine f_done ?_
                refine f_tn (kh25 _ _ ?_)
                clear kh25
                refine f_condF rfl ?_
                refine f_skip ?_
                refine f_tn (kh24 _ _ ?_)
                clear kh24
                refine f_seq fun K28 kh28 => ?_
                refine f_region ?_
                refine f_stepP rfl rfl rfl (o_move rfl) ?_
                refine f_done ?_
                refine f_tn (kh28 _ _ ?_)
                clear kh28
                refine f_condF rfl ?_
                refine f_skip ?_
                refine f_bn ?_
                refine f_tn (kh22 _ _ ?_)
                clear kh22
                refine f_region ?_
                refine f_stepP rfl rfl rfl (o_move rfl) ?_
                refine f_stepP rfl rfl rfl (o_add rfl rfl _ (wrap_i64 (by omega))) ?_
                refine f_stepP rfl rfl rfl (o_assign rfl) ?_
                refine f_done ?_
                refine f_tn (f_again (k + 1, many) (by first | omega | (dsimp only; omega) | (simp; omega)) ⟨by omega, by omega, by omega⟩ ?_ ?_ ?_)
                · exact (by repeat (first | exact trivial | refine ⟨rfl, ?_⟩))
                · exact (by repeat (first | exact trivial | refine ⟨rfl, ?_⟩))
                · repeat (first | exact Sub.nil | refine Sub.pick ?_ | refine Sub.castO rfl ?_ | refine Sub.skip ?_)
            · skip
              refine f_exit ?_
              refine f_te ?_
              clear kh20
              refine f_te ?_
              refine f_be ?_
              refine f_tn (kh18 _ _ ?_)
              clear kh18
              refine f_seq fun K29 kh29 => ?_
              refine f_region ?_
              refine f_stepP rfl rfl rfl (o_move rfl) ?_
              refine f_stepP rfl rfl rfl (o_move rfl) ?_
              refine f_step rfl rfl rfl (o_callM [hm] _ Try.call11 rfl (Sub.pick Sub.refl) (fun w_ hp_ => Len_spec T bH hm w_ hH hp_.owns) ?_)
              rintro _ _ ⟨rfl, rfl⟩
              have hcn : (T.take k).countP Option.isSome = tcount T := by rw [List.take_of_length_le (by omega)]; rfl
              dsimp only [List.cons_append, List.nil_append]
              refine f_stepP rfl rfl rfl (o_neq rfl rfl) ?_
              refine f_stepP rfl rfl rfl (o_move rfl) ?_
              refine f_falseL 110 rfl (by omega) ?_
              refine f_stepPY rfl rfl rfl rfl rfl (o_move rfl) ?_
              refine f_stepPY rfl rfl rfl rfl rfl (o_eql rfl rfl) ?_
              refine f_stepPY rfl rfl rfl rfl rfl (o_move rfl) ?_
              refine f_stepPY rfl rfl rfl rfl rfl (o_gtr rfl rfl) ?_
              refine f_stepPY rfl rfl rfl rfl rfl (o_neqB Try.underlying4 rfl rfl) ?_
              refine f_stepP rfl rfl rfl (o_pickF rfl rfl) ?_
              refine f_done ?_
              refine f_tn (kh29 _ _ ?_)
              clear kh29
              refine f_condN rfl (last_ok (by omega)) ?_
              refine f_skip ?_
              refine f_bn ?_
              refine f_tn (kh12 _ _ ?_)
              clear kh12
              refine f_region ?_
              refine f_stepP rfl rfl rfl (o_move rfl) ?_
              refine f_stepP rfl rfl rfl (o_add rfl rfl _ (wrap_i64 (by omega))) ?_
              refine f_stepP rfl rfl rfl (o_assign rfl) ?_
              refine f_done ?_
              refine f_tn (f_again (i + 1, T, hm) (by first | omega | (dsimp only; omega) | (simp; omega)) ⟨by omega, hH, hTn⟩ ?_ ?_ ?_)
              · exact (by repeat (first | exact trivial | refine ⟨rfl, ?_⟩))
              · exact (by repeat (first | exact trivial | refine ⟨rfl, ?_⟩))
              · repeat (first | exact Sub.nil | refine Sub.pick ?_ | refine Sub.castO rfl ?_ | refine Sub.skip ?_)
      · skip
        refine f_exit ?_
        refine f_te ?_
        clear kh10
        refine f_te ?_
        refine f_be ?_
        refine f_tn (kh8 _ _ ?_)
        clear kh8
        refine f_seq fun K30 kh30 => ?_
        refine f_region ?_
        refine f_stepP rfl rfl rfl (o_assign rfl) ?_
        refine f_done ?_
        refine f_tn (kh30 _ _ ?_)
        clear kh30
        refine f_ret ?_
        exact f_fin1 [] Try.results4 rfl Sub.nil ⟨rfl, rfl⟩
    · skip
      refine f_stepN rfl rfl rfl rfl rfl rfl ?_
      refine f_stepN rfl rfl rfl rfl rfl rfl ?_
      refine f_stepP rfl rfl rfl (o_pickF rfl rfl) ?_
      refine f_done ?_
      refine f_tn (kh11 _ _ ?_)
      clear kh11
      refine f_condF rfl ?_
      refine f_exit ?_
      refine f_te ?_
      clear kh10
      refine f_te ?_
      refine f_be ?_
      refine f_tn (kh8 _ _ ?_)
      clear kh8
      refine f_seq fun K31 kh31 => ?_
      refine f_region ?_
      refine f_stepP rfl rfl rfl (o_assign rfl) ?_
      refine f_done ?_
      refine f_tn (kh31 _ _ ?_)
      clear kh31
      refine f_ret ?_
      exact f_fin1 [] Try.results4 rfl Sub.nil ⟨rfl, rfl⟩

end Go.Proofs.Ytpooabplhgdfmaa
