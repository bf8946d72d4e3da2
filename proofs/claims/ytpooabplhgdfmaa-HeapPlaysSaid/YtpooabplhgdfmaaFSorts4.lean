/- flyoverlaw04.HeapSorts answers true. -/
import Derived.Test.YtpooabplhgdfmaaFLaw4
namespace Go.Proofs.Ytpooabplhgdfmaa
open Go Go.RowKit Fly
set_option linter.unusedVariables false
set_option linter.unusedSimpArgs false


def INF : Int := 18446744073709551615
def u64s (l : List Int) : List Value := l.map (.int .u64 ·)
theorem u64s_length (l : List Int) : (u64s l).length = l.length := by simp [u64s]
theorem u64s_get {l : List Int} {i : Nat} (h : i < l.length) : (u64s l)[i]? = some (.int .u64 l[i]) := by simp [u64s, h]
theorem u64s_at {l : List Int} {i : Nat} {x : Int} (h : l[i]? = some x) : (u64s l)[i]? = some (.int .u64 x) := by simp [u64s, h]
theorem u64s_set (l : List Int) (i : Nat) (x : Int) : (u64s l).set i (.int .u64 x) = u64s (l.set i x) := by simp [u64s, List.map_set]
theorem u64s_rep (n : Nat) (x : Int) : (List.replicate n [Value.int .u64 x]).flatten = u64s (List.replicate n x) := by
  induction n with
  | zero => rfl
  | succ n ih => simp only [List.replicate_succ, List.flatten_cons, ih]; rfl
theorem bools_rep (b : Bool) (n : Nat) : (List.replicate n [Value.bool b]).flatten = (List.replicate n b).map .bool := by
  induction n with
  | zero => rfl
  | succ n ih => simp only [List.replicate_succ, List.flatten_cons, List.map_cons, ih]; rfl
theorem bools_set (l : List Bool) (i : Nat) (b : Bool) : (l.map Value.bool).set i (.bool b) = (l.set i b).map .bool := by rw [List.map_set]
def leastOf (T : List (Option Int)) : List Int := T.map (fun o => o.getD INF)
def thereOf (T : List (Option Int)) : List Bool := T.map Option.isSome
theorem leastOf_len (T : List (Option Int)) : (leastOf T).length = T.length := by simp [leastOf]
theorem thereOf_len (T : List (Option Int)) : (thereOf T).length = T.length := by simp [thereOf]
theorem leastOf_none (n : Nat) : leastOf (List.replicate n none) = List.replicate n INF := by simp [leastOf]
theorem thereOf_none (n : Nat) : thereOf (List.replicate n none) = List.replicate n false := by simp [thereOf]
/-- What Lower does to the least keys. -/
theorem lower_in {T : List (Option Int)} {k : Nat} {key : Int} (hk : k < T.length) (hx : key ≤ INF) (hk' : k < (leastOf T).length) :
    (lowerR T (k : Int) key).2.2 = 0 ∧ leastOf (lowerR T (k : Int) key).1 = (leastOf T).set k (min (leastOf T)[k] key) ∧ thereOf (lowerR T (k : Int) key).1 = (thereOf T).set k true := by
  have hl : (leastOf T)[k] = (T[k]).getD INF := by simp [leastOf]
  have hT : T[k]? = some T[k] := List.getElem?_eq_getElem hk
  rw [hl]
  cases e : T[k] with
  | none =>
    rw [e] at hT
    rw [lower_new hk hT]
    refine ⟨rfl, ?_, ?_⟩
    · simp only [leastOf, List.map_set, Option.getD]; rw [Int.min_eq_right hx]
    · simp [thereOf, List.map_set]
  | some y =>
    rw [e] at hT
    by_cases hy : y ≤ key
    · rw [lower_no hk hT hy]
      refine ⟨rfl, ?_, ?_⟩
      · rw [Int.min_eq_left (by simpa using hy)]
        refine List.ext_getElem (by simp) fun j h1 h2 => ?_
        rw [List.getElem_set]; split
        · rename_i e'; subst e'; rw [hl, e]
        · rfl
      · refine List.ext_getElem (by simp) fun j h1 h2 => ?_
        rw [List.getElem_set]; split
        · rename_i e'; subst e'; simp [thereOf, e]
        · rfl
    · rw [lower_yes hk hT hy]
      refine ⟨rfl, ?_, ?_⟩
      · simp only [leastOf, List.map_set, Option.getD]; rw [Int.min_eq_right (by omega)]
      · simp [thereOf, List.map_set]
theorem top_ex {T : List (Option Int)} (h : 0 < tcount T) : ∃ k x, topR T = some (k, x) := by
  cases e : topR T with
  | none => have := topFrom_none e; omega
  | some p => exact ⟨p.1, p.2, rfl⟩
theorem tcount_pop {T : List (Option Int)} {k : Nat} {x : Int} (h : T[k]? = some (some x)) : tcount (T.set k none) + 1 = tcount T := by
  have hlt : k < T.length := (List.getElem?_eq_some_iff.1 h).1
  have hv : T[k] = some x := by rw [List.getElem?_eq_getElem hlt] at h; exact Option.some.inj h
  unfold tcount
  rw [List.countP_set hlt]
  have : 0 < T.countP Option.isSome := List.countP_pos_iff.2 ⟨_, List.getElem_mem hlt, by rw [hv]; rfl⟩
  simp [hv]; omega
theorem set_none {T : List (Option Int)} {k j : Nat} {y : Int} (h : (T.set k none)[j]? = some (some y)) : T[j]? = some (some y) := by
  rw [List.getElem?_set] at h
  split at h
  · split at h <;> simp at h
  · exact h
theorem there_at {T : List (Option Int)} {k : Nat} {x : Int} (h : T[k]? = some (some x)) : ((thereOf T).map Value.bool)[k]? = some (.bool true) := by simp [thereOf, h]
theorem least_at {T : List (Option Int)} {k : Nat} {x : Int} (h : T[k]? = some (some x)) : (u64s (leastOf T))[k]? = some (.int .u64 x) := by simp [u64s, leastOf, h]
theorem there_none {T : List (Option Int)} (h : tcount T = 0) {i : Nat} (hi : i < T.length) : ((thereOf T).map Value.bool)[i]? = some (.bool false) := by
  unfold tcount at h
  rw [List.countP_eq_zero] at h
  have := h _ (List.getElem_mem hi)
  simp [thereOf, hi]
  simpa using this

set_option maxRecDepth 100000 in
set_option maxHeartbeats 4000000 in
theorem HeapSorts_spec (A : Option Addr) (keys : List Int) (cap : Nat) (w : World) (hr : Ro (Fr w []) w A (u64s keys)) (hok : ∀ x ∈ keys, 0 ≤ x ∧ x ≤ 18446744073709551615) (hl : keys.length ≤ 9223372036854775807) :
    Meets Try.prog 3 [.slice A keys.length cap] w [] (fun u m => u = .bool true ∧ m = []) := by
  refine f_enter Try.func3 rfl Try.ntmps3 rfl Owns.nil ?_
  refine f_seq fun K1 kh1 => ?_
  refine f_region ?_
  refine f_stepP rfl rfl rfl (o_assign rfl) ?_
  refine f_done ?_
  refine f_tn (kh1 _ _ ?_)
  clear kh1
  refine f_seq fun K2 kh2 => ?_
  refine f_seq fun K3 kh3 => ?_
  refine f_region ?_
  refine f_step rfl rfl rfl (o_call Try.call8 rfl (fun w_ hp_ => works_spec w_) ?_)
  rintro _ _ ⟨rfl, rfl⟩
  dsimp only [List.cons_append, List.nil_append]
  refine f_stepP rfl rfl rfl (o_not rfl) ?_
  refine f_done ?_
  refine f_tn (kh3 _ _ ?_)
  clear kh3
  refine f_condF rfl ?_
  refine f_skip ?_
  refine f_tn (kh2 _ _ ?_)
  clear kh2
  refine f_seq fun K4 kh4 => ?_
  refine f_region ?_
  refine f_stepP rfl rfl rfl (o_move rfl) ?_
  refine f_stepP rfl rfl rfl (o_len sl22 rfl) ?_
  refine f_stepP rfl rfl rfl (o_min rfl rfl) ?_
  refine f_stepP rfl rfl rfl (o_assign rfl) ?_
  refine f_done ?_
  refine f_tn (kh4 _ _ ?_)
  clear kh4
  refine f_seq fun K5 kh5 => ?_
  obtain ⟨n, hn⟩ : ∃ n : Nat, min (keys.length : Int) 200 = (n : Int) := ⟨min keys.length 200, by omega⟩
  rw [hn]
  refine f_region ?_
  refine f_stepP rfl rfl rfl (o_move rfl) ?_
  refine f_stepP rfl rfl rfl (o_quo rfl rfl (by decide) ((n / 2 : Nat) : Int) (by rw [show (n : Int).tdiv 2 = ((n / 2 : Nat) : Int) from tdiv_nat n 2]; exact wrap_i64 (by omega))) ?_
  refine f_stepP rfl rfl rfl (o_max rfl rfl) ?_
  obtain ⟨s, hs⟩ : ∃ s : Nat, max (1 : Int) ((n / 2 : Nat) : Int) = (s : Int) := ⟨max 1 (n / 2), by omega⟩
  rw [hs]
  refine f_step rfl rfl rfl (o_call Try.call9 rfl (fun w_ hp_ => New_spec (s : Int) w_) ?_)
  rintro _ _ hN
  rw [NewΦ, if_neg (by omega), Int.toNat_natCast] at hN
  obtain ⟨bH, hm1, rfl, rfl, hH1⟩ := hN
  dsimp only [List.cons_append, List.nil_append]
  refine f_stepP rfl rfl rfl (o_move rfl) ?_
  refine f_stepP rfl rfl rfl (o_extract rfl rfl) ?_
  refine f_stepP rfl rfl rfl (o_extract rfl rfl) ?_
  refine f_stepP rfl rfl rfl (o_assign rfl) ?_
  refine f_stepP rfl rfl rfl (o_assign rfl) ?_
  refine f_done ?_
  refine f_tn (kh5 _ _ ?_)
  clear kh5
  refine f_seq fun K6 kh6 => ?_
  refine f_seq fun K7 kh7 => ?_
  refine f_region ?_
  refine f_stepP rfl rfl rfl (o_move rfl) ?_
  refine f_stepP rfl rfl rfl (o_eqlN (by kernel_rfl) rfl rfl) ?_
  refine f_stepP rfl rfl rfl (o_move rfl) ?_
  refine f_stepPY rfl rfl rfl rfl rfl (o_move rfl) ?_
  refine f_stepPY rfl rfl rfl rfl rfl (o_neq rfl rfl) ?_
  refine f_stepP rfl rfl rfl (o_pickF rfl rfl) ?_
  refine f_done ?_
  refine f_tn (kh7 _ _ ?_)
  clear kh7
  refine f_condN rfl (by simp) ?_
  refine f_skip ?_
  refine f_tn (kh6 _ _ ?_)
  clear kh6
  refine f_seq fun K8 kh8 => ?_
  refine f_region ?_
  refine f_stepP rfl rfl rfl (o_move rfl) ?_
  refine f_stepP rfl rfl rfl (o_quo rfl rfl (by decide) ((n / 2 : Nat) : Int) (by rw [show (n : Int).tdiv 2 = ((n / 2 : Nat) : Int) from tdiv_nat n 2]; exact wrap_i64 (by omega))) ?_
  refine f_stepP rfl rfl rfl (o_max rfl rfl) ?_
  rw [hs]
  refine f_step rfl rfl rfl (o_make el22 rfl rfl s rfl (by omega) (by omega) (u64s (List.replicate s 0)) (u64s_rep s 0) fun b41 => ?_)
  refine f_stepP rfl rfl rfl (o_assign rfl) ?_
  refine f_done ?_
  refine f_tn (kh8 _ _ ?_)
  clear kh8
  refine f_seq fun K9 kh9 => ?_
  refine f_seq fun K10 kh10 => ?_
  refine f_region ?_
  refine f_stepP rfl rfl rfl (o_move rfl) ?_
  refine f_stepP rfl rfl rfl (o_len sl22 rfl) ?_
  refine f_stepP rfl rfl rfl (o_move rfl) ?_
  refine f_done ?_
  refine f_tn (kh10 _ _ ?_)
  clear kh10
  refine f_block ?_
  refine f_loop (α := Nat × List Int) [0, 3, 4, 6, 43] (fun ⟨i, L⟩ => [(44, .int .i64 (i : Int))]) (fun ⟨i, L⟩ => [[(b41, blk (u64s L) 29)], hm1]) (fun ⟨i, L⟩ => i ≤ s ∧ L.length = s ∧ ∀ j (h : j < L.length), j < i → L[j] = INF) (fun ⟨i, L⟩ => s - i) (0, List.replicate s 0) ?_ ?_ ?_ ?_
  · exact (by repeat (first | exact trivial | refine ⟨rfl, ?_⟩))
  · repeat (first | exact Sub.nil | refine Sub.pick ?_ | refine Sub.castO rfl ?_ | refine Sub.skip ?_)
  · exact ⟨by omega, by simp, fun j _ h => by omega⟩
  · rintro ⟨i, L⟩ ⟨his, hLl, hL⟩
    refine f_seq fun K11 kh11 => ?_
    refine f_region ?_
    refine f_stepP rfl rfl rfl (o_lss rfl rfl) ?_
    refine f_done ?_
    refine f_tn (kh11 _ _ ?_)
    clear kh11
    refine f_seq fun K12 kh12 => ?_
    refine f_cond rfl (fun c45 => ?_) (fun c45 => ?_)
    · skip
      refine f_skip ?_
      refine f_tn (kh12 _ _ ?_)
      clear kh12
      refine f_seq fun K13 kh13 => ?_
      refine f_block ?_
      refine f_seq fun K14 kh14 => ?_
      refine f_region ?_
      refine f_stepP rfl rfl rfl (o_move rfl) ?_
      refine f_stepP rfl rfl rfl (o_assign rfl) ?_
      refine f_done ?_
      refine f_tn (kh14 _ _ ?_)
      clear kh14
      refine f_region ?_
      refine f_stepP rfl rfl rfl (o_move rfl) ?_
      refine f_stepP rfl rfl rfl (o_move rfl) ?_
      have hi' : i < s := by omega
      refine f_stepP rfl rfl rfl (o_idx sl22 rfl rfl (i) ⟨by omega, by omega, by first | omega | (simp; done) | (simp; omega)⟩) ?_
      refine f_step0 rfl rfl (o_store Try.sizeOf29 rfl rfl rfl rfl (by rw [u64s_length]; omega) (u64s (L.set i INF)) (u64s_set _ _ _) ?_)
      refine f_done ?_
      refine f_bn ?_
      refine f_tn (kh13 _ _ ?_)
      clear kh13
      refine f_region ?_
      refine f_stepP rfl rfl rfl (o_add rfl rfl _ (wrap_i64 (by omega))) ?_
      refine f_stepP rfl rfl rfl (o_move rfl) ?_
      refine f_done ?_
      refine f_tn (f_again (i + 1, L.set i INF) (by first | omega | (dsimp only; omega) | (simp; omega)) ⟨by omega, by simpa using hLl, fun j h hj => by rw [List.getElem_set]; split <;> first | rfl | exact hL j (by simpa using h) (by omega)⟩ ?_ ?_ ?_)
      · exact (by repeat (first | exact trivial | refine ⟨rfl, ?_⟩))
      · exact (by repeat (first | exact trivial | refine ⟨rfl, ?_⟩))
      · repeat (first | exact Sub.nil | refine Sub.pick ?_ | refine Sub.castO rfl ?_ | refine Sub.skip ?_)
    · skip
      refine f_exit ?_
      refine f_te ?_
      clear kh12
      refine f_te ?_
      refine f_be ?_
      refine f_tn (kh9 _ _ ?_)
      clear kh9
      refine f_seq fun K15 kh15 => ?_
      obtain rfl : L = leastOf (List.replicate s none) := by
        rw [leastOf_none]
        exact List.ext_getElem (by simp [hLl]) fun j h1 h2 => by rw [hL j h1 (by omega)]; simp
      refine f_region ?_
      refine f_stepP rfl rfl rfl (o_move rfl) ?_
      refine f_stepP rfl rfl rfl (o_len sl22 rfl) ?_
      refine f_step rfl rfl rfl (o_make el30 rfl rfl s rfl (by omega) (by omega) ((thereOf (List.replicate s none)).map .bool) (by rw [thereOf_none]; exact bools_rep false s) fun b53 => ?_)
      refine f_stepP rfl rfl rfl (o_assign rfl) ?_
      refine f_done ?_
      refine f_tn (kh15 _ _ ?_)
      clear kh15
      refine f_seq fun K16 kh16 => ?_
      refine f_seq fun K17 kh17 => ?_
      refine f_region ?_
      refine f_stepP rfl rfl rfl (o_move rfl) ?_
      refine f_stepP rfl rfl rfl (o_move rfl) ?_
      refine f_done ?_
      refine f_tn (kh17 _ _ ?_)
      clear kh17
      refine f_block ?_
      refine f_loop (α := Nat × List (Option Int) × Seg) [0, 4, 6, 8, 54] (fun ⟨i, T, hm⟩ => [(55, .int .i64 (i : Int))]) (fun ⟨i, T, hm⟩ => [[(b53, blk ((thereOf T).map .bool) 4)], [(b41, blk (u64s (leastOf T)) 29)], hm]) (fun ⟨i, T, hm⟩ => i ≤ n ∧ T.length = s ∧ HRep T bH hm) (fun ⟨i, T, hm⟩ => n - i) (0, List.replicate s none, hm1) ?_ ?_ ?_ ?_
      · exact (by repeat (first | exact trivial | refine ⟨rfl, ?_⟩))
      · repeat (first | exact Sub.nil | refine Sub.pick ?_ | refine Sub.castO rfl ?_ | refine Sub.skip ?_)
      · exact ⟨by omega, by simp, hH1⟩
      · rintro ⟨i, T0, hm0⟩ ⟨hin, hTl0, hH0⟩
        have hms : i % s < s := Nat.mod_lt _ (by omega)
        have hll := leastOf_len T0
        have htl := thereOf_len T0
        refine f_seq fun K18 kh18 => ?_
        refine f_region ?_
        refine f_stepP rfl rfl rfl (o_lss rfl rfl) ?_
        refine f_done ?_
        refine f_tn (kh18 _ _ ?_)
        clear kh18
        refine f_seq fun K19 kh19 => ?_
        refine f_cond rfl (fun c56 => ?_) (fun c56 => ?_)
        · skip
          refine f_skip ?_
          refine f_tn (kh19 _ _ ?_)
          clear kh19
          refine f_seq fun K20 kh20 => ?_
          refine f_block ?_
          refine f_seq fun K21 kh21 => ?_
          refine f_region ?_
          refine f_stepP rfl rfl rfl (o_move rfl) ?_
          refine f_stepP rfl rfl rfl (o_assign rfl) ?_
          refine f_done ?_
          refine f_tn (kh21 _ _ ?_)
          clear kh21
          refine f_seq fun K22 kh22 => ?_
          refine f_region ?_
          refine f_stepP rfl rfl rfl (o_move rfl) ?_
          refine f_stepP rfl rfl rfl (o_move rfl) ?_
          refine f_stepP rfl rfl rfl (o_len sl22 rfl) ?_
          refine f_stepP rfl rfl rfl (o_rem rfl rfl (by omega) ((i % s : Nat) : Int) rfl) ?_
          refine f_stepP rfl rfl rfl (o_assign rfl) ?_
          refine f_done ?_
          refine f_tn (kh22 _ _ ?_)
          clear kh22
          refine f_seq fun K23 kh23 => ?_
          refine f_seq fun K24 kh24 => ?_
          refine f_region ?_
          refine f_stepP rfl rfl rfl (o_move rfl) ?_
          refine f_stepP rfl rfl rfl (o_move rfl) ?_
          refine f_stepP rfl rfl rfl (o_move rfl) ?_
          refine f_stepP rfl rfl rfl (o_move rfl) ?_
          have hik : i < keys.length := by omega
          obtain ⟨bk, ok, rfl, hSk, hck⟩ := hr (map_ne hik)
          have hkey := hok _ (List.getElem_mem hik)
          obtain ⟨he, hlo, hto⟩ := lower_in (T := T0) (k := i % s) (key := keys[i]) (by omega) hkey.2 (by omega)
          refine f_stepP rfl rfl rfl (o_idx sl22 rfl rfl (ok + i) ⟨by omega, by omega, by first | omega | (simp; done) | (simp; omega)⟩) ?_
          refine f_stepP rfl rfl rfl (o_load Try.isAgg29 rfl (roOne (enc := (.int .u64 ·)) hSk hck hik)) ?_
          refine f_step rfl rfl rfl (o_callM [hm0] _ Try.call10 rfl (Sub.pick Sub.refl) (fun w_ hp_ => Lower_spec T0 bH hm0 ((i % s : Nat) : Int) keys[i] w_ hH0 hp_.owns) ?_)
          rintro _ _ ⟨rfl, hm2, rfl, hH2⟩
          dsimp only [List.cons_append, List.nil_append]
          refine f_stepP rfl rfl rfl (o_move rfl) ?_
          refine f_stepP rfl rfl rfl (o_extract rfl rfl) ?_
          refine f_stepP rfl rfl rfl (o_extract rfl rfl) ?_
          refine f_stepP rfl rfl rfl (o_assign rfl) ?_
          refine f_stepP rfl rfl rfl (o_assign rfl) ?_
          refine f_done ?_
          refine f_tn (kh24 _ _ ?_)
          clear kh24
          refine f_seq fun K25 kh25 => ?_
          refine f_region ?_
          refine f_stepP rfl rfl rfl (o_move rfl) ?_
          refine f_stepP rfl rfl rfl (o_neq rfl rfl) ?_
          refine f_done ?_
          refine f_tn (kh25 _ _ ?_)
          clear kh25
          refine f_condN rfl (by simpa using he) ?_
          refine f_skip ?_
          refine f_tn (kh23 _ _ ?_)
          clear kh23
          refine f_seq fun K26 kh26 => ?_
          refine f_regionT 12 rfl (by decide +kernel) ?_
          refine f_stillP rfl rfl rfl (o_move rfl) ?_
          refine f_stillP rfl rfl rfl (o_move rfl) ?_
          refine f_stillP rfl rfl rfl (o_move rfl) ?_
          refine f_stillP rfl rfl rfl (o_move rfl) ?_
          refine f_stillP rfl rfl rfl (o_idx sl22 rfl rfl (i % s) ⟨by omega, by omega, by first | omega | (simp; done) | (simp; omega)⟩) ?_
          refine f_stillP rfl rfl rfl (o_load Try.isAgg29 rfl (rdA (u64s_get (by omega)))) ?_
          refine f_stillP rfl rfl rfl (o_move rfl) ?_
          refine f_stillP rfl rfl rfl (o_move rfl) ?_
          refine f_stillP rfl rfl rfl (o_idx sl22 rfl rfl (ok + i) ⟨by omega, by omega, by first | omega | (simp; done) | (simp; omega)⟩) ?_
          refine f_stillP rfl rfl rfl (o_load Try.isAgg29 rfl (roOne (enc := (.int .u64 ·)) hSk hck hik)) ?_
          refine f_stillP rfl rfl rfl (o_min rfl rfl) ?_
          refine f_stillP rfl rfl rfl (o_idx sl22 rfl rfl (i % s) ⟨by omega, by omega, by first | omega | (simp; done) | (simp; omega)⟩) ?_
          refine f_stillD (f_tail ?_)
          refine f_step0 rfl rfl (o_store Try.sizeOf29 rfl rfl rfl rfl (by rw [u64s_length]; omega) (u64s (leastOf (lowerR T0 ((i % s : Nat) : Int) keys[i]).1)) (by rw [hlo, u64s_set]) ?_)
          refine f_done ?_
          refine f_tn (kh26 _ _ ?_)
          clear kh26
          refine f_region ?_
          refine f_stepP rfl rfl rfl (o_move rfl) ?_
          refine f_stepP rfl rfl rfl (o_move rfl) ?_
          refine f_stepP rfl rfl rfl (o_idx sl30 rfl rfl (i % s) ⟨by omega, by omega, by first | omega | (simp; done) | (simp; omega)⟩) ?_
          refine f_step0 rfl rfl (o_store Try.sizeOf4 rfl rfl rfl rfl (by rw [List.length_map]; omega) ((thereOf (lowerR T0 ((i % s : Nat) : Int) keys[i]).1).map .bool) (by rw [hto, bools_set]) ?_)
          refine f_done ?_
          refine f_bn ?_
          refine f_tn (kh20 _ _ ?_)
          clear kh20
          refine f_region ?_
          refine f_stepP rfl rfl rfl (o_add rfl rfl _ (wrap_i64 (by omega))) ?_
          refine f_stepP rfl rfl rfl (o_move rfl) ?_
          refine f_done ?_
          refine f_tn (f_again (i + 1, (lowerR T0 ((i % s : Nat) : Int) keys[i]).1, hm2) (by first | omega | (dsimp only; omega) | (simp; omega)) ⟨by omega, by rw [lowerR_len]; exact hTl0, hH2⟩ ?_ ?_ ?_)
          · exact (by repeat (first | exact trivial | refine ⟨rfl, ?_⟩))
          · exact (by repeat (first | exact trivial | refine ⟨rfl, ?_⟩))
          · repeat (first | exact Sub.nil | refine Sub.pick ?_ | refine Sub.castO rfl ?_ | refine Sub.skip ?_)
        · skip
          refine f_exit ?_
          refine f_te ?_
          clear kh19
          refine f_te ?_
          refine f_be ?_
          refine f_tn (kh16 _ _ ?_)
          clear kh16
          refine f_seq fun K27 kh27 => ?_
          refine f_region ?_
          refine f_stepP rfl rfl rfl (o_assign rfl) ?_
          refine f_stepP rfl rfl rfl (o_assign rfl) ?_
          refine f_done ?_
          refine f_tn (kh27 _ _ ?_)
          clear kh27
          refine f_seq fun K28 kh28 => ?_
          refine f_block ?_
          refine f_loop (α := List (Option Int) × Seg × Int × Int) [4, 6, 8] (fun ⟨T, hm, last, lk⟩ => [(13, .int .i64 last), (14, .int .u64 lk)]) (fun ⟨T, hm, last, lk⟩ => [[(b53, blk ((thereOf T).map .bool) 4)], [(b41, blk (u64s (leastOf T0)) 29)], hm]) (fun ⟨T, hm, last, lk⟩ => HRep T bH hm ∧ T.length = s ∧ (∀ (k : Nat) (x : Int), T[k]? = some (some x) → T0[k]? = some (some x)) ∧ (last < 0 ∨ ∃ q : Nat, last = q ∧ ∀ (j : Nat) (y : Int), T[j]? = some (some y) → ele ⟨q, lk⟩ ⟨j, y⟩)) (fun ⟨T, hm, last, lk⟩ => tcount T) (T0, hm0, -1, 0) ?_ ?_ ?_ ?_
          · exact (by repeat (first | exact trivial | refine ⟨rfl, ?_⟩))
          · repeat (first | exact Sub.nil | refine Sub.pick ?_ | refine Sub.castO rfl ?_ | refine Sub.skip ?_)
          · exact ⟨hH0, hTl0, fun k x h => h, .inl (by decide)⟩
          · rintro ⟨T, hm, last, lk⟩ ⟨hH, hTl, hsub, hlast⟩
            have hll := leastOf_len T0
            have htl := thereOf_len T
            refine f_seq fun K29 kh29 => ?_
            refine f_seq fun K30 kh30 => ?_
            refine f_region ?_
            refine f_stepP rfl rfl rfl (o_move rfl) ?_
            refine f_step rfl rfl rfl (o_callM [hm] _ Try.call11 rfl (Sub.pick Sub.refl) (fun w_ hp_ => Len_spec T bH hm w_ hH hp_.owns) ?_)
            rintro _ _ ⟨rfl, rfl⟩
            dsimp only [List.cons_append, List.nil_append]
            refine f_stepP rfl rfl rfl (o_gtr rfl rfl) ?_
            refine f_done ?_
            refine f_tn (kh30 _ _ ?_)
            clear kh30
            refine f_cond rfl (fun c92 => ?_) (fun c92 => ?_)
            · skip
              obtain ⟨k, x, hk⟩ := top_ex (T := T) (by omega)
              have hkT := (topR_some hk).1
              have hkl : k < T.length := (List.getElem?_eq_some_iff.1 hkT).1
              have htc := tcount_pop hkT
              refine f_skip ?_
              refine f_tn (kh29 _ _ ?_)
              clear kh29
              refine f_block ?_
              refine f_seq fun K31 kh31 => ?_
              refine f_region ?_
              refine f_stepP rfl rfl rfl (o_move rfl) ?_
              refine f_step rfl rfl rfl (o_callM [hm] _ Try.call12 rfl (Sub.pick Sub.refl) (fun w_ hp_ => HPop_spec T bH hm w_ hH hp_.owns) ?_)
              rintro _ _ ⟨rfl, hm2, rfl, hH2⟩
              rw [topA_some hk]
              rw [popT_some hk] at hH2
              dsimp only [List.cons_append, List.nil_append]
              refine f_stepP rfl rfl rfl (o_move rfl) ?_
              refine f_stepP rfl rfl rfl (o_extract rfl rfl) ?_
              refine f_stepP rfl rfl rfl (o_extract rfl rfl) ?_
              refine f_stepP rfl rfl rfl (o_extract rfl rfl) ?_
              refine f_stepP rfl rfl rfl (o_assign rfl) ?_
              refine f_stepP rfl rfl rfl (o_assign rfl) ?_
              refine f_stepP rfl rfl rfl (o_assign rfl) ?_
              refine f_done ?_
              refine f_tn (kh31 _ _ ?_)
              clear kh31
              refine f_seq fun K32 kh32 => ?_
              refine f_seq fun K33 kh33 => ?_
              refine f_region ?_
              refine f_stepP rfl rfl rfl (o_move rfl) ?_
              refine f_stepP rfl rfl rfl (o_neq rfl rfl) ?_
              refine f_stepP rfl rfl rfl (o_move rfl) ?_
              refine f_falseL 101 rfl (by simp) ?_
              refine f_stepPY rfl rfl rfl rfl rfl (o_move rfl) ?_
              refine f_stepPY rfl rfl rfl rfl rfl (o_lss rfl rfl) ?_
              refine f_stepP rfl rfl rfl (o_pickF rfl rfl) ?_
              refine f_stepP rfl rfl rfl (o_move rfl) ?_
              refine f_falseL 105 rfl (by omega) ?_
              refine f_stepPY rfl rfl rfl rfl rfl (o_move rfl) ?_
              refine f_stepPY rfl rfl rfl rfl rfl (o_move rfl) ?_
              refine f_stepPY rfl rfl rfl rfl rfl (o_len sl22 rfl) ?_
              refine f_stepPY rfl rfl rfl rfl rfl (o_geq rfl rfl) ?_
              refine f_stepP rfl rfl rfl (o_pickF rfl rfl) ?_
              refine f_stepP rfl rfl rfl (o_move rfl) ?_
              refine f_falseL 111 rfl (by omega) ?_
              refine f_stepPY rfl rfl rfl rfl rfl (o_move rfl) ?_
              refine f_stepPY rfl rfl rfl rfl rfl (o_move rfl) ?_
              refine f_stepPY rfl rfl rfl rfl rfl (o_idx sl30 rfl rfl (k) ⟨by omega, by omega, by first | omega | (simp; done) | (simp; omega)⟩) ?_
              refine f_stepPY rfl rfl rfl rfl rfl (o_load Try.isAgg4 rfl (rdA (v := .bool true) (there_at hkT))) ?_
              refine f_stepPY rfl rfl rfl rfl rfl (o_not rfl) ?_
              refine f_stepP rfl rfl rfl (o_pickF rfl rfl) ?_
              refine f_stepP rfl rfl rfl (o_move rfl) ?_
              refine f_stepPY rfl rfl rfl rfl rfl (o_move rfl) ?_
              refine f_stepPY rfl rfl rfl rfl rfl (o_move rfl) ?_
              refine f_stepPY rfl rfl rfl rfl rfl (o_move rfl) ?_
              refine f_stepPY rfl rfl rfl rfl rfl (o_idx sl22 rfl rfl (k) ⟨by omega, by omega, by first | omega | (simp; done) | (simp; omega)⟩) ?_
              refine f_stepPY rfl rfl rfl rfl rfl (o_load Try.isAgg29 rfl (rdA (v := .int .u64 x) (least_at (hsub _ _ hkT)))) ?_
              refine f_stepPY rfl rfl rfl rfl rfl (o_neq rfl rfl) ?_
              refine f_stepP rfl rfl rfl (o_pickF rfl rfl) ?_
              refine f_stepP rfl rfl rfl (o_move rfl) ?_
              refine f_falseL 126 rfl (by simp) ?_
              refine f_stepPY rfl rfl rfl rfl rfl (o_move rfl) ?_
              refine f_stepPY rfl rfl rfl rfl rfl (o_geq rfl rfl) ?_
              refine f_stepPY rfl rfl rfl rfl rfl (o_move rfl) ?_
              refine f_splitL 129 rfl (fun g129 => ?_) (fun g129 => ?_)
              · skip
                obtain ⟨q, rfl, hq⟩ := hlast.resolve_left (by omega)
                have hqe := hq k x hkT
                unfold ele elt at hqe
                dsimp only at hqe
                refine f_stepPY rfl rfl rfl rfl rfl (o_move rfl) ?_
                refine f_stepPY rfl rfl rfl rfl rfl (o_move rfl) ?_
                refine f_stepPY rfl rfl rfl rfl rfl (o_lss rfl rfl) ?_
                refine f_stepPY rfl rfl rfl rfl rfl (o_move rfl) ?_
                refine f_falseL 133 rfl (by omega) ?_
                refine f_stepPY rfl rfl rfl rfl rfl (o_move rfl) ?_
                refine f_stepPY rfl rfl rfl rfl rfl (o_move rfl) ?_
                refine f_stepPY rfl rfl rfl rfl rfl (o_eql rfl rfl) ?_
                refine f_stepPY rfl rfl rfl rfl rfl (o_move rfl) ?_
                refine f_splitL 137 rfl (fun g137 => ?_) (fun g137 => ?_)
                · skip
                  refine f_stepPY rfl rfl rfl rfl rfl (o_move rfl) ?_
                  refine f_stepPY rfl rfl rfl rfl rfl (o_move rfl) ?_
                  refine f_stepPY rfl rfl rfl rfl rfl (o_lss rfl rfl) ?_
                  refine f_stepPY rfl rfl rfl rfl rfl (o_pickT rfl rfl) ?_
                  refine f_stepPY rfl rfl rfl rfl rfl (o_pickF rfl rfl) ?_
                  refine f_stepPY rfl rfl rfl rfl rfl (o_pickT rfl rfl) ?_
                  refine f_stepP rfl rfl rfl (o_pickF rfl rfl) ?_
                  refine f_done ?_
                  refine f_tn (kh33 _ _ ?_)
                  clear kh33
                  refine f_condN rfl (by omega) ?_
                  refine f_skip ?_
                  refine f_tn (kh32 _ _ ?_)
                  clear kh32
                  refine f_seq fun K34 kh34 => ?_
                  refine f_region ?_
                  refine f_stepP rfl rfl rfl (o_move rfl) ?_
                  refine f_stepP rfl rfl rfl (o_move rfl) ?_
                  refine f_stepP rfl rfl rfl (o_idx sl30 rfl rfl (k) ⟨by omega, by omega, by first | omega | (simp; done) | (simp; omega)⟩) ?_
                  refine f_step0 rfl rfl (o_store Try.sizeOf4 rfl rfl rfl rfl (by rw [List.length_map]; omega) ((thereOf (T.set k none)).map .bool) (by rw [bools_set]; simp [thereOf, List.map_set]) ?_)
                  refine f_done ?_
                  refine f_tn (kh34 _ _ ?_)
                  clear kh34
                  refine f_region ?_
                  refine f_stepP rfl rfl rfl (o_move rfl) ?_
                  refine f_stepP rfl rfl rfl (o_move rfl) ?_
                  refine f_stepP rfl rfl rfl (o_assign rfl) ?_
                  refine f_stepP rfl rfl rfl (o_assign rfl) ?_
                  refine f_done ?_
                  refine f_bn ?_
                  refine f_tn (f_again (T.set k none, hm2, (k : Int), x) (by dsimp only; omega) ⟨hH2, by simpa using hTl, fun j y h => hsub j y (set_none h), .inr ⟨k, rfl, fun j y h => (topR_some hk).2 j y (set_none h)⟩⟩ ?_ ?_ ?_)
                  · exact (by repeat (first | exact trivial | refine ⟨rfl, ?_⟩))
                  · exact (by repeat (first | exact trivial | refine ⟨rfl, ?_⟩))
                  · repeat (first | exact Sub.nil | refine Sub.pick ?_ | refine Sub.castO rfl ?_ | refine Sub.skip ?_)
                · skip
                  refine f_stepN rfl rfl rfl rfl rfl rfl ?_
                  refine f_stepN rfl rfl rfl rfl rfl rfl ?_
                  refine f_stepN rfl rfl rfl rfl rfl rfl ?_
                  refine f_stepPY rfl rfl rfl rfl rfl (o_pickF rfl rfl) ?_
                  refine f_stepPY rfl rfl rfl rfl rfl (o_pickF rfl rfl) ?_
                  refine f_stepPY rfl rfl rfl rfl rfl (o_pickT rfl rfl) ?_
                  refine f_stepP rfl rfl rfl (o_pickF rfl rfl) ?_
                  refine f_done ?_
                  refine f_tn (kh33 _ _ ?_)
                  clear kh33
                  refine f_condF rfl ?_
                  refine f_skip ?_
                  refine f_tn (kh32 _ _ ?_)
                  clear kh32
                  refine f_seq fun K35 kh35 => ?_
                  refine f_region ?_
                  refine f_stepP rfl rfl rfl (o_move rfl) ?_
                  refine f_stepP rfl rfl rfl (o_move rfl) ?_
                  refine f_stepP rfl rfl rfl (o_idx sl30 rfl rfl (k) ⟨by omega, by omega, by first | omega | (simp; done) | (simp; omega)⟩) ?_
                  refine f_step0 rfl rfl (o_store Try.sizeOf4 rfl rfl rfl rfl (by rw [List.length_map]; omega) ((thereOf (T.set k none)).map .bool) (by rw [bools_set]; simp [thereOf, List.map_set]) ?_)
                  refine f_done ?_
                  refine f_tn (kh35 _ _ ?_)
                  clear kh35
                  refine f_region ?_
                  refine f_stepP rfl rfl rfl (o_move rfl) ?_
                  refine f_stepP rfl rfl rfl (o_move rfl) ?_
                  refine f_stepP rfl rfl rfl (o_assign rfl) ?_
                  refine f_stepP rfl rfl rfl (o_assign rfl) ?_
                  refine f_done ?_
                  refine f_bn ?_
                  refine f_tn (f_again (T.set k none, hm2, (k : Int), x) (by dsimp only; omega) ⟨hH2, by simpa using hTl, fun j y h => hsub j y (set_none h), .inr ⟨k, rfl, fun j y h => (topR_some hk).2 j y (set_none h)⟩⟩ ?_ ?_ ?_)
                  · exact (by repeat (first | exact trivial | refine ⟨rfl, ?_⟩))
                  · exact (by repeat (first | exact trivial | refine ⟨rfl, ?_⟩))
                  · repeat (first | exact Sub.nil | refine Sub.pick ?_ | refine Sub.castO rfl ?_ | refine Sub.skip ?_)
              · skip
                refine f_stepN rfl rfl rfl rfl rfl rfl ?_
                refine f_stepN rfl rfl rfl rfl rfl rfl ?_
                refine f_stepN rfl rfl rfl rfl rfl rfl ?_
                refine f_stepN rfl rfl rfl rfl rfl rfl ?_
                refine f_stepU rfl rfl rfl rfl rfl ?_
                refine f_stepU rfl rfl rfl rfl rfl ?_
                refine f_stepU rfl rfl rfl rfl rfl ?_
                refine f_stepU rfl rfl rfl rfl rfl ?_
                refine f_stepU rfl rfl rfl rfl rfl ?_
                refine f_stepU rfl rfl rfl rfl rfl ?_
                refine f_stepU rfl rfl rfl rfl rfl ?_
                refine f_stepU rfl rfl rfl rfl rfl ?_
                refine f_stepN rfl rfl rfl rfl rfl rfl ?_
                refine f_stepPY rfl rfl rfl rfl rfl (o_pickF rfl rfl) ?_
                refine f_stepP rfl rfl rfl (o_pickF rfl rfl) ?_
                refine f_done ?_
                refine f_tn (kh33 _ _ ?_)
                clear kh33
                refine f_condF rfl ?_
                refine f_skip ?_
                refine f_tn (kh32 _ _ ?_)
                clear kh32
                refine f_seq fun K36 kh36 => ?_
                refine f_region ?_
                refine f_stepP rfl rfl rfl (o_move rfl) ?_
                refine f_stepP rfl rfl rfl (o_move rfl) ?_
                refine f_stepP rfl rfl rfl (o_idx sl30 rfl rfl (k) ⟨by omega, by omega, by first | omega | (simp; done) | (simp; omega)⟩) ?_
                refine f_step0 rfl rfl (o_store Try.sizeOf4 rfl rfl rfl rfl (by rw [List.length_map]; omega) ((thereOf (T.set k none)).map .bool) (by rw [bools_set]; simp [thereOf, List.map_set]) ?_)
                refine f_done ?_
                refine f_tn (kh36 _ _ ?_)
                clear kh36
                refine f_region ?_
                refine f_stepP rfl rfl rfl (o_move rfl) ?_
                refine f_stepP rfl rfl rfl (o_move rfl) ?_
                refine f_stepP rfl rfl rfl (o_assign rfl) ?_
                refine f_stepP rfl rfl rfl (o_assign rfl) ?_
                refine f_done ?_
                refine f_bn ?_
                refine f_tn (f_again (T.set k none, hm2, (k : Int), x) (by dsimp only; omega) ⟨hH2, by simpa using hTl, fun j y h => hsub j y (set_none h), .inr ⟨k, rfl, fun j y h => (topR_some hk).2 j y (set_none h)⟩⟩ ?_ ?_ ?_)
                · exact (by repeat (first | exact trivial | refine ⟨rfl, ?_⟩))
                · exact (by repeat (first | exact trivial | refine ⟨rfl, ?_⟩))
                · repeat (first | exact Sub.nil | refine Sub.pick ?_ | refine Sub.castO rfl ?_ | refine Sub.skip ?_)
            · skip
              refine f_exit ?_
              refine f_te ?_
              clear kh29
              refine f_te ?_
              refine f_be ?_
              refine f_tn (kh28 _ _ ?_)
              clear kh28
              refine f_seq fun K37 kh37 => ?_
              refine f_seq fun K38 kh38 => ?_
              have hz : tcount T = 0 := by omega
              refine f_region ?_
              refine f_stepP rfl rfl rfl (o_move rfl) ?_
              refine f_stepP rfl rfl rfl (o_len sl30 rfl) ?_
              refine f_stepP rfl rfl rfl (o_move rfl) ?_
              refine f_done ?_
              refine f_tn (kh38 _ _ ?_)
              clear kh38
              refine f_block ?_
              refine f_loop (α := Nat) [4, 150, 151] (fun i => [(152, .int .i64 (i : Int))]) (fun i => [[(b53, blk ((thereOf T).map .bool) 4)], hm]) (fun i => i ≤ s) (fun i => s - i) (0) ?_ ?_ ?_ ?_
              · exact (by repeat (first | exact trivial | refine ⟨rfl, ?_⟩))
              · repeat (first | exact Sub.nil | refine Sub.pick ?_ | refine Sub.castO rfl ?_ | refine Sub.skip ?_)
              · exact Nat.zero_le _
              · rintro i his
                refine f_seq fun K39 kh39 => ?_
                refine f_region ?_
                refine f_stepP rfl rfl rfl (o_lss rfl rfl) ?_
                refine f_done ?_
                refine f_tn (kh39 _ _ ?_)
                clear kh39
                refine f_seq fun K40 kh40 => ?_
                refine f_cond rfl (fun c153 => ?_) (fun c153 => ?_)
                · skip
                  refine f_skip ?_
                  refine f_tn (kh40 _ _ ?_)
                  clear kh40
                  refine f_seq fun K41 kh41 => ?_
                  refine f_block ?_
                  refine f_seq fun K42 kh42 => ?_
                  refine f_region ?_
                  have hi' : i < s := by omega
                  refine f_stepP rfl rfl rfl (o_idx sl30 rfl rfl (i) ⟨by omega, by omega, by first | omega | (simp; done) | (simp; omega)⟩) ?_
                  refine f_stepP rfl rfl rfl (o_load Try.isAgg4 rfl (rdA (v := .bool false) (there_none hz (by omega)))) ?_
                  refine f_stepP rfl rfl rfl (o_assign rfl) ?_
                  refine f_done ?_
                  refine f_tn (kh42 _ _ ?_)
                  clear kh42
                  refine f_seq fun K43 kh43 => ?_
                  refine f_region ?_
                  refine f_stepP rfl rfl rfl (o_move rfl) ?_
                  refine f_done ?_
                  refine f_tn (kh43 _ _ ?_)
                  clear kh43
                  refine f_condB rfl (fun c156 => ?_) (fun c156 => ?_)
                  · skip
                    cases c156 -- closed
                  · skip
                    refine f_skip ?_
                    refine f_bn ?_
                    refine f_tn (kh41 _ _ ?_)
                    clear kh41
                    refine f_region ?_
                    refine f_stepP rfl rfl rfl (o_add rfl rfl _ (wrap_i64 (by omega))) ?_
                    refine f_stepP rfl rfl rfl (o_move rfl) ?_
                    refine f_done ?_
                    refine f_tn (f_again (i + 1) (by first | omega | (dsimp only; omega) | (simp; omega)) (by omega) ?_ ?_ ?_)
                    · exact (by repeat (first | exact trivial | refine ⟨rfl, ?_⟩))
                    · exact (by repeat (first | exact trivial | refine ⟨rfl, ?_⟩))
                    · repeat (first | exact Sub.nil | refine Sub.pick ?_ | refine Sub.castO rfl ?_ | refine Sub.skip ?_)
                · skip
                  refine f_exit ?_
                  refine f_te ?_
                  clear kh40
                  refine f_te ?_
                  refine f_be ?_
                  refine f_tn (kh37 _ _ ?_)
                  clear kh37
                  refine f_seq fun K44 kh44 => ?_
                  refine f_region ?_
                  refine f_stepP rfl rfl rfl (o_move rfl) ?_
                  refine f_step rfl rfl rfl (o_callM [hm] _ Try.call12 rfl (Sub.pick Sub.refl) (fun w_ hp_ => HPop_spec T bH hm w_ hH hp_.owns) ?_)
                  rintro _ _ ⟨rfl, hm2, rfl, hH2⟩
                  rw [topA_none (topR_none hz)]
                  dsimp only [List.cons_append, List.nil_append]
                  refine f_stepP rfl rfl rfl (o_move rfl) ?_
                  refine f_stepP rfl rfl rfl (o_extract rfl rfl) ?_
                  refine f_stepP rfl rfl rfl (o_extract rfl rfl) ?_
                  refine f_stepP rfl rfl rfl (o_extract rfl rfl) ?_
                  refine f_stepP rfl rfl rfl (o_assign rfl) ?_
                  refine f_done ?_
                  refine f_tn (kh44 _ _ ?_)
                  clear kh44
                  refine f_seq fun K45 kh45 => ?_
                  refine f_region ?_
                  refine f_stepP rfl rfl rfl (o_move rfl) ?_
                  refine f_stepP rfl rfl rfl (o_eql rfl rfl) ?_
                  refine f_stepP rfl rfl rfl (o_assign rfl) ?_
                  refine f_done ?_
                  refine f_tn (kh45 _ _ ?_)
                  clear kh45
                  refine f_ret ?_
                  exact f_fin1 [] Try.results3 rfl Sub.nil ⟨rfl, rfl⟩

end Go.Proofs.Ytpooabplhgdfmaa
