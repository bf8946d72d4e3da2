/- dist.Add, bits.Mul, slices.Repeat. -/
import Derived.Test.YtlllpmafhnfihaaFlyT
import Derived.Test.YtlllpmafhnfihaaPNear
namespace Go.Proofs.Ytlllpmafhnfihaa
open Go Go.RowKit Fly
set_option linter.unusedVariables false
set_option linter.unusedSimpArgs false


theorem add64_run (a b : Int) (ha : 0 ≤ a) (hb : 0 ≤ b) (w : World) : (callFunc 85 [Value.int .u64 a, .int .u64 b, .int .u64 0].toArray).run Try.prog w = .ok (.value (.tuple #[.int .u64 ((a + b + 0) % 18446744073709551616), .int .u64 ((a + b + 0) / 18446744073709551616)])) w := by
  show (callFunc 85 #[Value.int .u64 a, .int .u64 b, .int .u64 0]).run Try.prog w = _
  rw [run_callFunc_extern (fn := Try.f85) (e := add64Entry) Try.func85 (by kernel_rfl) (by kernel_rfl) (by kernel_rfl) (by kernel_rfl), run_add64 a b 0 ha hb (by decide) (by decide)]
  rfl
theorem and32 {y : Nat} (h : y < 4294967296) : IntKind.u64.wrap ((BitVec.ofInt IntKind.u64.bits (y : Int) &&& BitVec.ofInt IntKind.u64.bits 4294967295).toNat) = (y : Int) := by
  have := and_mask (k := 32) (y := y) (by omega) (by omega)
  rw [Nat.mod_eq_of_lt (by omega)] at this
  exact this
theorem shr32 {y : Nat} (h : y < 4294967296) : (y : Int).fdiv (2 ^ (min ((32 : Int).toNat) IntKind.u64.bits)) = 0 := by
  show (y : Int).fdiv 4294967296 = 0
  rw [Int.fdiv_eq_ediv_of_nonneg _ (by decide)]
  exact Int.ediv_eq_zero_of_lt (by omega) (by omega)
/-- A row that is filled as far as n. -/
def fillTo (N n : Nat) (z x : Value) : List Value := List.replicate n x ++ List.replicate (N - n) z
theorem fillTo_len {N n : Nat} (h : n ≤ N) (z x : Value) : (fillTo N n z x).length = N := by simp [fillTo]; omega
theorem fillTo_next {N n m : Nat} (h : n + m ≤ N) (z x : Value) : (fillTo N n z x).take n ++ List.replicate m x ++ (fillTo N n z x).drop (n + m) = fillTo N (n + m) z x := by
  unfold fillTo
  rw [List.take_left' (by simp), List.drop_append, List.drop_of_length_le (by simp), List.nil_append, List.length_replicate, List.drop_replicate, List.append_assoc, ← List.append_assoc, List.replicate_append_replicate]
  congr 2; omega
theorem fillTo_all {N n : Nat} (h : n = N) (z x : Value) : fillTo N n z x = List.replicate N x := by subst h; simp [fillTo]
theorem fillTo_get {N n j : Nat} {v z x : Value} (h : (List.replicate n x)[j]? = some v) : (fillTo N n z x)[j]? = some v := by
  unfold fillTo; exact app_get h
theorem rep_one {m : Nat} {x : Value} (h : x.oneCell' = true) : (List.replicate m x).all (·.oneCell') = true := by
  rw [List.all_eq_true]; intro y hy; rw [(List.mem_replicate.1 hy).2]; exact h
theorem rep_take {n m j : Nat} {x v : Value} (h : (List.replicate (min n m) x)[j]? = some v) : (List.replicate n x)[j]? = some v := by
  rw [List.getElem?_replicate] at h ⊢
  split at h
  · rw [if_pos (by omega)]; exact h
  · cases h
theorem rep_flat (n : Nat) (z : Value) : (List.replicate n [z]).flatten = List.replicate n z := by
  induction n with
  | zero => rfl
  | succ n ih => simp only [List.replicate_succ, List.flatten_cons, ih]; rfl

set_option maxRecDepth 100000 in
set_option maxHeartbeats 4000000 in
theorem Add_spec (a b : Int) (w : World) (ha : 0 ≤ a ∧ a ≤ INF) (hb : 0 ≤ b ∧ b ≤ INF) : Meets Try.prog 71 [.int .u64 a, .int .u64 b] w [] (fun u m => u = .int .u64 (dadd a b) ∧ m = []) := by
  unfold INF at ha hb
  refine f_enter Try.func71 rfl Try.ntmps71 rfl Owns.nil ?_
  refine f_seq fun K1 kh1 => ?_
  refine f_region ?_
  refine f_stepP rfl rfl rfl (o_assign rfl) ?_
  refine f_done ?_
  refine f_tn (kh1 _ _ ?_)
  clear kh1
  refine f_seq fun K2 kh2 => ?_
  refine f_region ?_
  refine f_stepP rfl rfl rfl (o_move rfl) ?_
  refine f_stepP rfl rfl rfl (o_move rfl) ?_
  refine f_stepP rfl rfl rfl (o_ext rfl (fun w => add64_run a b ha.1 hb.1 w)) ?_
  refine f_stepP rfl rfl rfl (o_move rfl) ?_
  refine f_stepP rfl rfl rfl (o_extract rfl rfl) ?_
  refine f_stepP rfl rfl rfl (o_extract rfl rfl) ?_
  refine f_stepP rfl rfl rfl (o_assign rfl) ?_
  refine f_stepP rfl rfl rfl (o_assign rfl) ?_
  refine f_done ?_
  refine f_tn (kh2 _ _ ?_)
  clear kh2
  refine f_seq fun K3 kh3 => ?_
  refine f_seq fun K4 kh4 => ?_
  refine f_region ?_
  refine f_stepP rfl rfl rfl (o_move rfl) ?_
  refine f_stepP rfl rfl rfl (o_gtr rfl rfl) ?_
  refine f_done ?_
  refine f_tn (kh4 _ _ ?_)
  clear kh4
  refine f_cond rfl (fun c14 => ?_) (fun c14 => ?_)
  · skip
    refine f_seq fun K5 kh5 => ?_
    refine f_region ?_
    refine f_stepP rfl rfl rfl (o_assign rfl) ?_
    refine f_done ?_
    refine f_tn (kh5 _ _ ?_)
    clear kh5
    refine f_ret ?_
    refine f_tr ?_
    exact f_fin1 [] Try.results71 rfl Sub.nil ⟨by unfold dadd INF; rw [if_pos (by omega)], rfl⟩
  · skip
    refine f_skip ?_
    refine f_tn (kh3 _ _ ?_)
    clear kh3
    refine f_seq fun K6 kh6 => ?_
    refine f_region ?_
    refine f_stepP rfl rfl rfl (o_move rfl) ?_
    refine f_stepP rfl rfl rfl (o_assign rfl) ?_
    refine f_done ?_
    refine f_tn (kh6 _ _ ?_)
    clear kh6
    refine f_ret ?_
    exact f_fin1 [] Try.results71 rfl Sub.nil ⟨by unfold dadd INF; rw [if_neg (by omega)]; congr 1; omega, rfl⟩

set_option maxRecDepth 100000 in
set_option maxHeartbeats 4000000 in
theorem Mul64_spec (y : Nat) (w : World) (hy : y < 4294967296) : Meets Try.prog 80 [.int .u64 1, .int .u64 (y : Int)] w [] (fun u m => u = .tuple #[.int .u64 0, .int .u64 (y : Int)] ∧ m = []) := by
  refine f_enter Try.func80 rfl Try.ntmps80 rfl Owns.nil ?_
  refine f_seq fun K1 kh1 => ?_
  refine f_region ?_
  refine f_stepP rfl rfl rfl (o_assign rfl) ?_
  refine f_stepP rfl rfl rfl (o_assign rfl) ?_
  refine f_done ?_
  refine f_tn (kh1 _ _ ?_)
  clear kh1
  refine f_seq fun K2 kh2 => ?_
  refine f_region ?_
  refine f_stepP rfl rfl rfl (o_move rfl) ?_
  refine f_stepP rfl rfl rfl (o_and rfl rfl 1 (by decide)) ?_
  refine f_stepP rfl rfl rfl (o_assign rfl) ?_
  refine f_done ?_
  refine f_tn (kh2 _ _ ?_)
  clear kh2
  refine f_seq fun K3 kh3 => ?_
  refine f_region ?_
  refine f_stepP rfl rfl rfl (o_move rfl) ?_
  refine f_stepP rfl rfl rfl (o_shr rfl rfl (by decide) 0 (by decide)) ?_
  refine f_stepP rfl rfl rfl (o_assign rfl) ?_
  refine f_done ?_
  refine f_tn (kh3 _ _ ?_)
  clear kh3
  refine f_seq fun K4 kh4 => ?_
  refine f_region ?_
  refine f_stepP rfl rfl rfl (o_move rfl) ?_
  refine f_stepP rfl rfl rfl (o_and rfl rfl (y : Int) (and32 hy)) ?_
  refine f_stepP rfl rfl rfl (o_assign rfl) ?_
  refine f_done ?_
  refine f_tn (kh4 _ _ ?_)
  clear kh4
  refine f_seq fun K5 kh5 => ?_
  refine f_region ?_
  refine f_stepP rfl rfl rfl (o_move rfl) ?_
  refine f_stepP rfl rfl rfl (o_shr rfl rfl (by decide) 0 (shr32 hy)) ?_
  refine f_stepP rfl rfl rfl (o_assign rfl) ?_
  refine f_done ?_
  refine f_tn (kh5 _ _ ?_)
  clear kh5
  refine f_seq fun K6 kh6 => ?_
  refine f_region ?_
  refine f_stepP rfl rfl rfl (o_move rfl) ?_
  refine f_stepP rfl rfl rfl (o_move rfl) ?_
  refine f_stepP rfl rfl rfl (o_mul rfl rfl _ (show IntKind.u64.wrap (1 * (y : Int)) = (y : Int) from by rw [Int.one_mul]; exact wrap_u64 (by omega))) ?_
  refine f_stepP rfl rfl rfl (o_assign rfl) ?_
  refine f_done ?_
  refine f_tn (kh6 _ _ ?_)
  clear kh6
  refine f_seq fun K7 kh7 => ?_
  refine f_region ?_
  refine f_stepP rfl rfl rfl (o_move rfl) ?_
  refine f_stepP rfl rfl rfl (o_move rfl) ?_
  refine f_stepP rfl rfl rfl (o_mul rfl rfl _ (show IntKind.u64.wrap (0 * (y : Int)) = 0 from by rw [Int.zero_mul]; rfl)) ?_
  refine f_stepP rfl rfl rfl (o_move rfl) ?_
  refine f_stepP rfl rfl rfl (o_shr rfl rfl (by decide) 0 (shr32 hy)) ?_
  refine f_stepP rfl rfl rfl (o_add rfl rfl _ (show IntKind.u64.wrap (0 + 0) = 0 from rfl)) ?_
  refine f_stepP rfl rfl rfl (o_assign rfl) ?_
  refine f_done ?_
  refine f_tn (kh7 _ _ ?_)
  clear kh7
  refine f_seq fun K8 kh8 => ?_
  refine f_region ?_
  refine f_stepP rfl rfl rfl (o_move rfl) ?_
  refine f_stepP rfl rfl rfl (o_and rfl rfl 0 (by decide)) ?_
  refine f_stepP rfl rfl rfl (o_assign rfl) ?_
  refine f_done ?_
  refine f_tn (kh8 _ _ ?_)
  clear kh8
  refine f_seq fun K9 kh9 => ?_
  refine f_region ?_
  refine f_stepP rfl rfl rfl (o_move rfl) ?_
  refine f_stepP rfl rfl rfl (o_shr rfl rfl (by decide) 0 (by decide)) ?_
  refine f_stepP rfl rfl rfl (o_assign rfl) ?_
  refine f_done ?_
  refine f_tn (kh9 _ _ ?_)
  clear kh9
  refine f_seq fun K10 kh10 => ?_
  refine f_region ?_
  refine f_stepP rfl rfl rfl (o_move rfl) ?_
  refine f_stepP rfl rfl rfl (o_move rfl) ?_
  refine f_stepP rfl rfl rfl (o_move rfl) ?_
  refine f_stepP rfl rfl rfl (o_mul rfl rfl _ (show IntKind.u64.wrap (1 * 0) = 0 from rfl)) ?_
  refine f_stepP rfl rfl rfl (o_add rfl rfl _ (show IntKind.u64.wrap (0 + 0) = 0 from rfl)) ?_
  refine f_stepP rfl rfl rfl (o_assign rfl) ?_
  refine f_done ?_
  refine f_tn (kh10 _ _ ?_)
  clear kh10
  refine f_seq fun K11 kh11 => ?_
  refine f_region ?_
  refine f_stepP rfl rfl rfl (o_move rfl) ?_
  refine f_stepP rfl rfl rfl (o_move rfl) ?_
  refine f_stepP rfl rfl rfl (o_mul rfl rfl _ (show IntKind.u64.wrap (0 * 0) = 0 from rfl)) ?_
  refine f_stepP rfl rfl rfl (o_move rfl) ?_
  refine f_stepP rfl rfl rfl (o_add rfl rfl _ (show IntKind.u64.wrap (0 + 0) = 0 from rfl)) ?_
  refine f_stepP rfl rfl rfl (o_move rfl) ?_
  refine f_stepP rfl rfl rfl (o_shr rfl rfl (by decide) 0 (by decide)) ?_
  refine f_stepP rfl rfl rfl (o_add rfl rfl _ (show IntKind.u64.wrap (0 + 0) = 0 from rfl)) ?_
  refine f_stepP rfl rfl rfl (o_assign rfl) ?_
  refine f_done ?_
  refine f_tn (kh11 _ _ ?_)
  clear kh11
  refine f_seq fun K12 kh12 => ?_
  refine f_region ?_
  refine f_stepP rfl rfl rfl (o_move rfl) ?_
  refine f_stepP rfl rfl rfl (o_move rfl) ?_
  refine f_stepP rfl rfl rfl (o_mul rfl rfl _ (show IntKind.u64.wrap (1 * (y : Int)) = (y : Int) from by rw [Int.one_mul]; exact wrap_u64 (by omega))) ?_
  refine f_stepP rfl rfl rfl (o_assign rfl) ?_
  refine f_done ?_
  refine f_tn (kh12 _ _ ?_)
  clear kh12
  refine f_ret ?_
  exact f_fin2 [] Try.results80 rfl rfl Sub.nil ⟨rfl, rfl⟩

set_option maxRecDepth 100000 in
set_option maxHeartbeats 4000000 in
theorem Mul_spec (y : Nat) (w : World) (hy : y < 4294967296) : Meets Try.prog 65 [.int .u64 1, .int .u64 (y : Int)] w [] (fun u m => u = .tuple #[.int .u64 0, .int .u64 (y : Int)] ∧ m = []) := by
  refine f_enter Try.func65 rfl Try.ntmps65 rfl Owns.nil ?_
  refine f_seq fun K1 kh1 => ?_
  refine f_region ?_
  refine f_stepP rfl rfl rfl (o_assign rfl) ?_
  refine f_stepP rfl rfl rfl (o_assign rfl) ?_
  refine f_done ?_
  refine f_tn (kh1 _ _ ?_)
  clear kh1
  refine f_seq fun K2 kh2 => ?_
  refine f_condF rfl ?_
  refine f_skip ?_
  refine f_tn (kh2 _ _ ?_)
  clear kh2
  refine f_seq fun K3 kh3 => ?_
  refine f_region ?_
  refine f_stepP rfl rfl rfl (o_move rfl) ?_
  refine f_stepP rfl rfl rfl (o_move rfl) ?_
  refine f_step rfl rfl rfl (o_call Try.call80 rfl (fun w_ hp_ => Mul64_spec y w_ hy) ?_)
  rintro _ _ ⟨rfl, rfl⟩
  dsimp only [List.cons_append, List.nil_append]
  refine f_stepP rfl rfl rfl (o_move rfl) ?_
  refine f_stepP rfl rfl rfl (o_extract rfl rfl) ?_
  refine f_stepP rfl rfl rfl (o_extract rfl rfl) ?_
  refine f_stepP rfl rfl rfl (o_assign rfl) ?_
  refine f_stepP rfl rfl rfl (o_assign rfl) ?_
  refine f_done ?_
  refine f_tn (kh3 _ _ ?_)
  clear kh3
  refine f_seq fun K4 kh4 => ?_
  refine f_region ?_
  refine f_stepP rfl rfl rfl (o_move rfl) ?_
  refine f_stepP rfl rfl rfl (o_move rfl) ?_
  refine f_stepP rfl rfl rfl (o_assign rfl) ?_
  refine f_stepP rfl rfl rfl (o_assign rfl) ?_
  refine f_done ?_
  refine f_tn (kh4 _ _ ?_)
  clear kh4
  refine f_ret ?_
  exact f_fin2 [] Try.results65 rfl rfl Sub.nil ⟨rfl, rfl⟩

set_option maxRecDepth 100000 in
set_option maxHeartbeats 4000000 in
theorem RepD_spec (b off cx N : Nat) (x : Int) (w : World) (hx : Ro (Fr w []) w (some ⟨b, off, none⟩) [.int .u64 x]) (hN : 1 ≤ N ∧ N ≤ 1000000) : Meets Try.prog 49 [.slice (some ⟨b, off, none⟩) 1 cx, .int .i64 (N : Int)] w [] (fun u m => ∃ bN, u = .slice (some ⟨bN, 0, none⟩) N N ∧ m = [[(bN, blk (List.replicate N (.int .u64 x)) 49)]]) := by
  obtain ⟨b', o', e', hSx, hcx⟩ := hx (by simp)
  obtain ⟨rfl, rfl⟩ : b = b' ∧ off = o' := by cases e'; exact ⟨rfl, rfl⟩
  refine f_enter Try.func49 rfl Try.ntmps49 rfl Owns.nil ?_
  refine f_seq fun K1 kh1 => ?_
  refine f_region ?_
  refine f_stepP rfl rfl rfl (o_assign rfl) ?_
  refine f_done ?_
  refine f_tn (kh1 _ _ ?_)
  clear kh1
  refine f_seq fun K2 kh2 => ?_
  refine f_seq fun K3 kh3 => ?_
  refine f_region ?_
  refine f_stepP rfl rfl rfl (o_move rfl) ?_
  refine f_stepP rfl rfl rfl (o_lss rfl rfl) ?_
  refine f_done ?_
  refine f_tn (kh3 _ _ ?_)
  clear kh3
  refine f_cond rfl (fun c10 => ?_) (fun c10 => ?_)
  · skip
    omega -- closed
  · skip
    refine f_skip ?_
    refine f_tn (kh2 _ _ ?_)
    clear kh2
    refine f_seq fun K4 kh4 => ?_
    refine f_region ?_
    refine f_stepP rfl rfl rfl (o_move rfl) ?_
    refine f_stepP rfl rfl rfl (o_len sl45 rfl) ?_
    refine f_stepP rfl rfl rfl (o_conv Try.runUnderlying3 Try.runUnderlying69 rfl _ (wrap_u64 (by omega))) ?_
    refine f_stepP rfl rfl rfl (o_move rfl) ?_
    refine f_stepP rfl rfl rfl (o_conv Try.runUnderlying3 Try.runUnderlying69 rfl _ (wrap_u64 (by omega))) ?_
    refine f_step rfl rfl rfl (o_call Try.call65 rfl (fun w_ hp_ => Mul_spec N w_ (by omega)) ?_)
    rintro _ _ ⟨rfl, rfl⟩
    dsimp only [List.cons_append, List.nil_append]
    refine f_stepP rfl rfl rfl (o_move rfl) ?_
    refine f_stepP rfl rfl rfl (o_extract rfl rfl) ?_
    refine f_stepP rfl rfl rfl (o_extract rfl rfl) ?_
    refine f_stepP rfl rfl rfl (o_assign rfl) ?_
    refine f_stepP rfl rfl rfl (o_assign rfl) ?_
    refine f_done ?_
    refine f_tn (kh4 _ _ ?_)
    clear kh4
    refine f_seq fun K5 kh5 => ?_
    refine f_seq fun K6 kh6 => ?_
    refine f_region ?_
    refine f_stepP rfl rfl rfl (o_move rfl) ?_
    refine f_stepP rfl rfl rfl (o_gtr rfl rfl) ?_
    refine f_stepP rfl rfl rfl (o_move rfl) ?_
    refine f_falseL 23 rfl (by decide) ?_
    refine f_stepPY rfl rfl rfl rfl rfl (o_move rfl) ?_
    refine f_stepPY rfl rfl rfl rfl rfl (o_gtr rfl rfl) ?_
    refine f_stepP rfl rfl rfl (o_pickF rfl rfl) ?_
    refine f_done ?_
    refine f_tn (kh6 _ _ ?_)
    clear kh6
    refine f_cond rfl (fun c26 => ?_) (fun c26 => ?_)
    · skip
      omega -- closed
    · skip
      refine f_skip ?_
      refine f_tn (kh5 _ _ ?_)
      clear kh5
      refine f_seq fun K7 kh7 => ?_
      refine f_region ?_
      refine f_stepP rfl rfl rfl (o_move rfl) ?_
      refine f_stepP rfl rfl rfl (o_conv Try.runUnderlying69 Try.runUnderlying3 rfl _ (wrap_i64 (by omega))) ?_
      refine f_step rfl rfl rfl (o_make el45 rfl rfl N rfl (by omega) (by omega) (fillTo N 0 (.int .u64 0) (.int .u64 x)) (by rw [rep_flat]; simp [fillTo]) fun b30 => ?_)
      refine f_stepP rfl rfl rfl (o_assign rfl) ?_
      refine f_done ?_
      refine f_tn (kh7 _ _ ?_)
      clear kh7
      refine f_seq fun K8 kh8 => ?_
      refine f_region ?_
      refine f_stepP rfl rfl rfl (o_move rfl) ?_
      refine f_stepP rfl rfl rfl (o_move rfl) ?_
      refine f_step rfl rfl rfl (o_copy Try.underlying45 (by kernel_rfl) rfl rfl (cs := [.int .u64 x]) (rds_of _ _ fun j v hj => rdS hSx (hcx j v hj)) (by simp [Nat.min_def]; omega) rfl (by rw [fillTo_len (by omega)]; simp; omega) (fillTo N 1 (.int .u64 0) (.int .u64 x)) (fillTo_next (m := 1) (by omega) _ _) ?_)
      refine f_stepP rfl rfl rfl (o_assign rfl) ?_
      refine f_done ?_
      refine f_tn (kh8 _ _ ?_)
      clear kh8
      refine f_seq fun K9 kh9 => ?_
      refine f_block ?_
      refine f_loop (α := Nat) [7] (fun n => [(8, .int .i64 (n : Int))]) (fun n => [[(b30, blk (fillTo N n (.int .u64 0) (.int .u64 x)) 49)]]) (fun n => 1 ≤ n ∧ n ≤ N) (fun n => N - n) (1) ?_ ?_ ?_ ?_
      · exact (by repeat (first | exact trivial | refine ⟨rfl, ?_⟩))
      · repeat (first | exact Sub.nil | refine Sub.pick ?_ | refine Sub.castO rfl ?_ | refine Sub.skip ?_)
      · exact ⟨Nat.le_refl _, hN.1⟩
      · rintro n ⟨hn1, hnN⟩
        refine f_seq fun K10 kh10 => ?_
        refine f_seq fun K11 kh11 => ?_
        refine f_region ?_
        refine f_stepP rfl rfl rfl (o_move rfl) ?_
        refine f_stepP rfl rfl rfl (o_move rfl) ?_
        refine f_stepP rfl rfl rfl (o_len sl45 rfl) ?_
        refine f_stepP rfl rfl rfl (o_lss rfl rfl) ?_
        refine f_done ?_
        refine f_tn (kh11 _ _ ?_)
        clear kh11
        refine f_cond rfl (fun c37 => ?_) (fun c37 => ?_)
        · skip
          refine f_skip ?_
          refine f_tn (kh10 _ _ ?_)
          clear kh10
          refine f_block ?_
          refine f_regionH [] rfl ?_
          refine f_take 0 rfl (by decide +kernel) rfl rfl rfl (by repeat (first | exact Sub.nil | refine Sub.pick ?_ | refine Sub.castO rfl ?_ | refine Sub.skip ?_)) (o_move rfl) ?_
          refine f_take 1 rfl (by decide +kernel) rfl rfl rfl (by repeat (first | exact Sub.nil | refine Sub.pick ?_ | refine Sub.castO rfl ?_ | refine Sub.skip ?_)) (o_move rfl) ?_
          refine f_take 2 rfl (by decide +kernel) rfl rfl rfl (by repeat (first | exact Sub.nil | refine Sub.pick ?_ | refine Sub.castO rfl ?_ | refine Sub.skip ?_)) (o_move rfl) ?_
          refine f_take 3 rfl (by decide +kernel) rfl rfl rfl (by repeat (first | exact Sub.nil | refine Sub.pick ?_ | refine Sub.castO rfl ?_ | refine Sub.skip ?_)) (o_slice sl45 rfl rfl rfl rfl (fun h => by cases h) n _ _ (.inr ⟨_, _, rfl, by omega⟩) (.inl ⟨rfl, rfl⟩) (.inl ⟨rfl, rfl⟩) ⟨by omega, by omega, by omega⟩ (.slice (some ⟨b30, n, none⟩) (N - n) (N - n)) (by rw [if_neg (by omega)]; simp [add_at])) ?_
          refine f_take 4 rfl (by decide +kernel) rfl rfl rfl (by repeat (first | exact Sub.nil | refine Sub.pick ?_ | refine Sub.castO rfl ?_ | refine Sub.skip ?_)) (o_move rfl) ?_
          refine f_take 5 rfl (by decide +kernel) rfl rfl rfl (by repeat (first | exact Sub.nil | refine Sub.pick ?_ | refine Sub.castO rfl ?_ | refine Sub.skip ?_)) (o_move rfl) ?_
          refine f_take 6 rfl (by decide +kernel) rfl rfl rfl (by repeat (first | exact Sub.nil | refine Sub.pick ?_ | refine Sub.castO rfl ?_ | refine Sub.skip ?_)) (o_slice sl45 rfl rfl rfl rfl (fun h => by cases h) 0 n _ (.inl ⟨rfl, rfl⟩) (.inr ⟨_, _, rfl, by omega⟩) (.inl ⟨rfl, rfl⟩) ⟨by omega, by omega, by omega⟩ (.slice (some ⟨b30, 0, none⟩) n N) (by rw [if_neg (by omega)]; simp [add_at])) ?_
          refine f_only 7 rfl (by decide +kernel) rfl rfl rfl (o_copy Try.underlying45 (by kernel_rfl) rfl rfl (cs := List.replicate (min n (N - n)) (.int .u64 x)) (rds_of _ _ fun j v hj => rdA (by rw [Nat.zero_add]; exact fillTo_get (rep_take hj))) (by rw [List.length_replicate]) (rep_one rfl) (by rw [fillTo_len (by omega), List.length_replicate]; omega) (fillTo N (n + min n (N - n)) (.int .u64 0) (.int .u64 x)) (by rw [List.length_replicate]; exact fillTo_next (by omega) _ _) ⟨(by repeat (first | exact Sub.nil | refine Sub.pick ?_ | refine Sub.castO rfl ?_ | refine Sub.skip ?_)), ?_⟩)
          refine f_take 8 rfl (by decide +kernel) rfl rfl rfl (by repeat (first | exact Sub.nil | refine Sub.pick ?_ | refine Sub.castO rfl ?_ | refine Sub.skip ?_)) (o_add rfl rfl _ (show IntKind.i64.wrap ((n : Int) + ((List.replicate (min n (N - n)) (Value.int .u64 x)).length : Int)) = ((n + min n (N - n) : Nat) : Int) from by rw [List.length_replicate, wrap_i64 (by omega)]; omega)) ?_
          refine f_only 9 rfl (by decide +kernel) rfl rfl rfl ((o_assign rfl).does ⟨(by repeat (first | exact Sub.nil | refine Sub.pick ?_ | refine Sub.castO rfl ?_ | refine Sub.skip ?_)), ?_⟩)
          refine f_over (by decide +kernel) ?_
          refine f_bn ?_
          refine f_tn (f_again (n + min n (N - n)) (by omega) ⟨by omega, by omega⟩ ?_ ?_ ?_)
          · exact (by repeat (first | exact trivial | refine ⟨rfl, ?_⟩))
          · exact (by repeat (first | exact trivial | refine ⟨rfl, ?_⟩))
          · repeat (first | exact Sub.nil | refine Sub.pick ?_ | refine Sub.castO rfl ?_ | refine Sub.skip ?_)
        · skip
          refine f_exit ?_
          refine f_te ?_
          clear kh10
          refine f_te ?_
          refine f_be ?_
          refine f_tn (kh9 _ _ ?_)
          clear kh9
          refine f_seq fun K12 kh12 => ?_
          refine f_region ?_
          refine f_stepP rfl rfl rfl (o_move rfl) ?_
          refine f_stepP rfl rfl rfl (o_assign rfl) ?_
          refine f_done ?_
          refine f_tn (kh12 _ _ ?_)
          clear kh12
          refine f_ret ?_
          exact f_fin1 [[(b30, blk (List.replicate N (.int .u64 x)) 49)]] Try.results49 rfl (by rw [← fillTo_all (show n = N by omega) (.int .u64 0)]; exact Sub.pick Sub.nil) ⟨b30, rfl, rfl⟩

set_option maxRecDepth 100000 in
set_option maxHeartbeats 4000000 in
theorem RepI_spec (b off cx N : Nat) (x : Int) (w : World) (hx : Ro (Fr w []) w (some ⟨b, off, none⟩) [.int .i64 x]) (hN : 1 ≤ N ∧ N ≤ 1000000) : Meets Try.prog 50 [.slice (some ⟨b, off, none⟩) 1 cx, .int .i64 (N : Int)] w [] (fun u m => ∃ bN, u = .slice (some ⟨bN, 0, none⟩) N N ∧ m = [[(bN, blk (List.replicate N (.int .i64 x)) 3)]]) := by
  obtain ⟨b', o', e', hSx, hcx⟩ := hx (by simp)
  obtain ⟨rfl, rfl⟩ : b = b' ∧ off = o' := by cases e'; exact ⟨rfl, rfl⟩
  refine f_enter Try.func50 rfl Try.ntmps50 rfl Owns.nil ?_
  refine f_seq fun K1 kh1 => ?_
  refine f_region ?_
  refine f_stepP rfl rfl rfl (o_assign rfl) ?_
  refine f_done ?_
  refine f_tn (kh1 _ _ ?_)
  clear kh1
  refine f_seq fun K2 kh2 => ?_
  refine f_seq fun K3 kh3 => ?_
  refine f_region ?_
  refine f_stepP rfl rfl rfl (o_move rfl) ?_
  refine f_stepP rfl rfl rfl (o_lss rfl rfl) ?_
  refine f_done ?_
  refine f_tn (kh3 _ _ ?_)
  clear kh3
  refine f_cond rfl (fun c10 => ?_) (fun c10 => ?_)
  · skip
    omega -- closed
  · skip
    refine f_skip ?_
    refine f_tn (kh2 _ _ ?_)
    clear kh2
    refine f_seq fun K4 kh4 => ?_
    refine f_region ?_
    refine f_stepP rfl rfl rfl (o_move rfl) ?_
    refine f_stepP rfl rfl rfl (o_len sl28 rfl) ?_
    refine f_stepP rfl rfl rfl (o_conv Try.runUnderlying3 Try.runUnderlying69 rfl _ (wrap_u64 (by omega))) ?_
    refine f_stepP rfl rfl rfl (o_move rfl) ?_
    refine f_stepP rfl rfl rfl (o_conv Try.runUnderlying3 Try.runUnderlying69 rfl _ (wrap_u64 (by omega))) ?_
    refine f_step rfl rfl rfl (o_call Try.call65 rfl (fun w_ hp_ => Mul_spec N w_ (by omega)) ?_)
    rintro _ _ ⟨rfl, rfl⟩
    dsimp only [List.cons_append, List.nil_append]
    refine f_stepP rfl rfl rfl (o_move rfl) ?_
    refine f_stepP rfl rfl rfl (o_extract rfl rfl) ?_
    refine f_stepP rfl rfl rfl (o_extract rfl rfl) ?_
    refine f_stepP rfl rfl rfl (o_assign rfl) ?_
    refine f_stepP rfl rfl rfl (o_assign rfl) ?_
    refine f_done ?_
    refine f_tn (kh4 _ _ ?_)
    clear kh4
    refine f_seq fun K5 kh5 => ?_
    refine f_seq fun K6 kh6 => ?_
    refine f_region ?_
    refine f_stepP rfl rfl rfl (o_move rfl) ?_
    refine f_stepP rfl rfl rfl (o_gtr rfl rfl) ?_
    refine f_stepP rfl rfl rfl (o_move rfl) ?_
    refine f_falseL 23 rfl (by decide) ?_
    refine f_stepPY rfl rfl rfl rfl rfl (o_move rfl) ?_
    refine f_stepPY rfl rfl rfl rfl rfl (o_gtr rfl rfl) ?_
    refine f_stepP rfl rfl rfl (o_pickF rfl rfl) ?_
    refine f_done ?_
    refine f_tn (kh6 _ _ ?_)
    clear kh6
    refine f_cond rfl (fun c26 => ?_) (fun c26 => ?_)
    · skip
      omega -- closed
    · skip
      refine f_skip ?_
      refine f_tn (kh5 _ _ ?_)
      clear kh5
      refine f_seq fun K7 kh7 => ?_
      refine f_region ?_
      refine f_stepP rfl rfl rfl (o_move rfl) ?_
      refine f_stepP rfl rfl rfl (o_conv Try.runUnderlying69 Try.runUnderlying3 rfl _ (wrap_i64 (by omega))) ?_
      refine f_step rfl rfl rfl (o_make el28 rfl rfl N rfl (by omega) (by omega) (fillTo N 0 (.int .i64 0) (.int .i64 x)) (by rw [rep_flat]; simp [fillTo]) fun b30 => ?_)
      refine f_stepP rfl rfl rfl (o_assign rfl) ?_
      refine f_done ?_
      refine f_tn (kh7 _ _ ?_)
      clear kh7
      refine f_seq fun K8 kh8 => ?_
      refine f_region ?_
      refine f_stepP rfl rfl rfl (o_move rfl) ?_
      refine f_stepP rfl rfl rfl (o_move rfl) ?_
      refine f_step rfl rfl rfl (o_copy Try.underlying28 (by kernel_rfl) rfl rfl (cs := [.int .i64 x]) (rds_of _ _ fun j v hj => rdS hSx (hcx j v hj)) (by simp [Nat.min_def]; omega) rfl (by rw [fillTo_len (by omega)]; simp; omega) (fillTo N 1 (.int .i64 0) (.int .i64 x)) (fillTo_next (m := 1) (by omega) _ _) ?_)
      refine f_stepP rfl rfl rfl (o_assign rfl) ?_
      refine f_done ?_
      refine f_tn (kh8 _ _ ?_)
      clear kh8
      refine f_seq fun K9 kh9 => ?_
      refine f_block ?_
      refine f_loop (α := Nat) [7] (fun n => [(8, .int .i64 (n : Int))]) (fun n => [[(b30, blk (fillTo N n (.int .i64 0) (.int .i64 x)) 3)]]) (fun n => 1 ≤ n ∧ n ≤ N) (fun n => N - n) (1) ?_ ?_ ?_ ?_
      · exact (by repeat (first | exact trivial | refine ⟨rfl, ?_⟩))
      · repeat (first | exact Sub.nil | refine Sub.pick ?_ | refine Sub.castO rfl ?_ | refine Sub.skip ?_)
      · exact ⟨Nat.le_refl _, hN.1⟩
      · rintro n ⟨hn1, hnN⟩
        refine f_seq fun K10 kh10 => ?_
        refine f_seq fun K11 kh11 => ?_
        refine f_region ?_
        refine f_stepP rfl rfl rfl (o_move rfl) ?_
        refine f_stepP rfl rfl rfl (o_move rfl) ?_
        refine f_stepP rfl rfl rfl (o_len sl28 rfl) ?_
        refine f_stepP rfl rfl rfl (o_lss rfl rfl) ?_
        refine f_done ?_
        refine f_tn (kh11 _ _ ?_)
        clear kh11
        refine f_cond rfl (fun c37 => ?_) (fun c37 => ?_)
        · skip
          refine f_skip ?_
          refine f_tn (kh10 _ _ ?_)
          clear kh10
          refine f_block ?_
          refine f_regionH [] rfl ?_
          refine f_take 0 rfl (by decide +kernel) rfl rfl rfl (by repeat (first | exact Sub.nil | refine Sub.pick ?_ | refine Sub.castO rfl ?_ | refine Sub.skip ?_)) (o_move rfl) ?_
          refine f_take 1 rfl (by decide +kernel) rfl rfl rfl (by repeat (first | exact Sub.nil | refine Sub.pick ?_ | refine Sub.castO rfl ?_ | refine Sub.skip ?_)) (o_move rfl) ?_
          refine f_take 2 rfl (by decide +kernel) rfl rfl rfl (by repeat (first | exact Sub.nil | refine Sub.pick ?_ | refine Sub.castO rfl ?_ | refine Sub.skip ?_)) (o_move rfl) ?_
          refine f_take 3 rfl (by decide +kernel) rfl rfl rfl (by repeat (first | exact Sub.nil | refine Sub.pick ?_ | refine Sub.castO rfl ?_ | refine Sub.skip ?_)) (o_slice sl28 rfl rfl rfl rfl (fun h => by cases h) n _ _ (.inr ⟨_, _, rfl, by omega⟩) (.inl ⟨rfl, rfl⟩) (.inl ⟨rfl, rfl⟩) ⟨by omega, by omega, by omega⟩ (.slice (some ⟨b30, n, none⟩) (N - n) (N - n)) (by rw [if_neg (by omega)]; simp [add_at])) ?_
          refine f_take 4 rfl (by decide +kernel) rfl rfl rfl (by repeat (first | exact Sub.nil | refine Sub.pick ?_ | refine Sub.castO rfl ?_ | refine Sub.skip ?_)) (o_move rfl) ?_
          refine f_take 5 rfl (by decide +kernel) rfl rfl rfl (by repeat (first | exact Sub.nil | refine Sub.pick ?_ | refine Sub.castO rfl ?_ | refine Sub.skip ?_)) (o_move rfl) ?_
          refine f_take 6 rfl (by decide +kernel) rfl rfl rfl (by repeat (first | exact Sub.nil | refine Sub.pick ?_ | refine Sub.castO rfl ?_ | refine Sub.skip ?_)) (o_slice sl28 rfl rfl rfl rfl (fun h => by cases h) 0 n _ (.inl ⟨rfl, rfl⟩) (.inr ⟨_, _, rfl, by omega⟩) (.inl ⟨rfl, rfl⟩) ⟨by omega, by omega, by omega⟩ (.slice (some ⟨b30, 0, none⟩) n N) (by rw [if_neg (by omega)]; simp [add_at])) ?_
          refine f_only 7 rfl (by decide +kernel) rfl rfl rfl (o_copy Try.underlying28 (by kernel_rfl) rfl rfl (cs := List.replicate (min n (N - n)) (.int .i64 x)) (rds_of _ _ fun j v hj => rdA (by rw [Nat.zero_add]; exact fillTo_get (rep_take hj))) (by rw [List.length_replicate]) (rep_one rfl) (by rw [fillTo_len (by omega), List.length_replicate]; omega) (fillTo N (n + min n (N - n)) (.int .i64 0) (.int .i64 x)) (by rw [List.length_replicate]; exact fillTo_next (by omega) _ _) ⟨(by repeat (first | exact Sub.nil | refine Sub.pick ?_ | refine Sub.castO rfl ?_ | refine Sub.skip ?_)), ?_⟩)
          refine f_take 8 rfl (by decide +kernel) rfl rfl rfl (by repeat (first | exact Sub.nil | refine Sub.pick ?_ | refine Sub.castO rfl ?_ | refine Sub.skip ?_)) (o_add rfl rfl _ (show IntKind.i64.wrap ((n : Int) + ((List.replicate (min n (N - n)) (Value.int .i64 x)).length : Int)) = ((n + min n (N - n) : Nat) : Int) from by rw [List.length_replicate, wrap_i64 (by omega)]; omega)) ?_
          refine f_only 9 rfl (by decide +kernel) rfl rfl rfl ((o_assign rfl).does ⟨(by repeat (first | exact Sub.nil | refine Sub.pick ?_ | refine Sub.castO rfl ?_ | refine Sub.skip ?_)), ?_⟩)
          refine f_over (by decide +kernel) ?_
          refine f_bn ?_
          refine f_tn (f_again (n + min n (N - n)) (by omega) ⟨by omega, by omega⟩ ?_ ?_ ?_)
          · exact (by repeat (first | exact trivial | refine ⟨rfl, ?_⟩))
          · exact (by repeat (first | exact trivial | refine ⟨rfl, ?_⟩))
          · repeat (first | exact Sub.nil | refine Sub.pick ?_ | refine Sub.castO rfl ?_ | refine Sub.skip ?_)
        · skip
          refine f_exit ?_
          refine f_te ?_
          clear kh10
          refine f_te ?_
          refine f_be ?_
          refine f_tn (kh9 _ _ ?_)
          clear kh9
          refine f_seq fun K12 kh12 => ?_
          refine f_region ?_
          refine f_stepP rfl rfl rfl (o_move rfl) ?_
          refine f_stepP rfl rfl rfl (o_assign rfl) ?_
          refine f_done ?_
          refine f_tn (kh12 _ _ ?_)
          clear kh12
          refine f_ret ?_
          exact f_fin1 [[(b30, blk (List.replicate N (.int .i64 x)) 3)]] Try.results50 rfl (by rw [← fillTo_all (show n = N by omega) (.int .i64 0)]; exact Sub.pick Sub.nil) ⟨b30, rfl, rfl⟩

end Go.Proofs.Ytlllpmafhnfihaa
