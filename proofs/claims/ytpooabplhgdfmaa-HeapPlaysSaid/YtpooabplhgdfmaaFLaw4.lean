/- flyoverlaw04: works and among. -/
import Derived.Test.YtpooabplhgdfmaaFHeap3
namespace Go.Proofs.Ytpooabplhgdfmaa
open Go Go.RowKit Fly
set_option linter.unusedVariables false
set_option linter.unusedSimpArgs false


theorem among_eq {x n : Int} (hn : 0 < n) : (x.tmod n + n).tmod n = x % n := by
  have h1 : x.tmod n + n * x.tdiv n = x := Int.tmod_add_mul_tdiv x n
  have h2 : -n < x.tmod n := by
    have := Int.lt_tmod_of_pos x hn
    omega
  have h3 : x % n = x.tmod n % n := by
    conv => lhs; rw [← h1]
    exact Int.add_mul_emod_self_left _ _ _
  rw [Int.tmod_eq_emod_of_nonneg (by omega), h3]
  exact Int.add_emod_right _ _
theorem among_lt {x n : Int} (hn : 0 < n) : -n < x.tmod n ∧ x.tmod n < n := ⟨Int.lt_tmod_of_pos x hn, Int.tmod_lt_of_pos x hn⟩
theorem wl1 : lowerR (List.replicate (5 : Int).toNat none) 3 7 = ([none, none, none, some 7, none], true, 0) := by decide
theorem wl2 : lowerR [none, none, none, some 7, none] 1 7 = ([none, some 7, none, some 7, none], true, 0) := by decide
theorem wl3 : lowerR [none, some 7, none, some 7, none] 3 9 = ([none, some 7, none, some 7, none], false, 0) := by decide
theorem wl4 : lowerR [none, some 7, none, some 7, none] 3 2 = ([none, some 7, none, some 2, none], true, 0) := by decide
theorem wl5 : topA [none, some 7, none, some 2, none] = (3, 2, 0) := by decide
theorem wl6 : popT [none, some 7, none, some 2, none] = [none, some 7, none, none, none] := by decide

set_option maxRecDepth 100000 in
set_option maxHeartbeats 4000000 in
theorem among_spec (x n : Int) (w : World) (hn : 0 < n ∧ n ≤ 4611686018427387904) : Meets Try.prog 13 [.int .i64 x, .int .i64 n] w [] (fun u m => u = .int .i64 (x % n) ∧ m = []) := by
  have hl := among_lt (x := x) hn.1
  refine f_enter Try.func13 rfl Try.ntmps13 rfl Owns.nil ?_
  refine f_seq fun K1 kh1 => ?_
  refine f_region ?_
  refine f_stepP rfl rfl rfl (o_assign rfl) ?_
  refine f_done ?_
  refine f_tn (kh1 _ _ ?_)
  clear kh1
  refine f_seq fun K2 kh2 => ?_
  refine f_region ?_
  refine f_stepP rfl rfl rfl (o_move rfl) ?_
  refine f_stepP rfl rfl rfl (o_move rfl) ?_
  refine f_stepP rfl rfl rfl (o_rem rfl rfl (by omega) _ rfl) ?_
  refine f_stepP rfl rfl rfl (o_move rfl) ?_
  refine f_stepP rfl rfl rfl (o_add rfl rfl _ (wrap_i64 (by omega))) ?_
  refine f_stepP rfl rfl rfl (o_move rfl) ?_
  refine f_stepP rfl rfl rfl (o_rem rfl rfl (by omega) (x % n) (among_eq hn.1)) ?_
  refine f_stepP rfl rfl rfl (o_assign rfl) ?_
  refine f_done ?_
  refine f_tn (kh2 _ _ ?_)
  clear kh2
  refine f_ret ?_
  exact f_fin1 [] Try.results13 rfl Sub.nil ⟨rfl, rfl⟩

set_option maxRecDepth 100000 in
set_option maxHeartbeats 4000000 in
theorem works_spec (w : World) : Meets Try.prog 8 [] w [] (fun u m => u = .bool true ∧ m = []) := by
  refine f_enter Try.func8 rfl Try.ntmps8 rfl Owns.nil ?_
  refine f_seq fun K1 kh1 => ?_
  refine f_region ?_
  refine f_stepP rfl rfl rfl (o_assign rfl) ?_
  refine f_done ?_
  refine f_tn (kh1 _ _ ?_)
  clear kh1
  refine f_seq fun K2 kh2 => ?_
  refine f_region ?_
  refine f_step rfl rfl rfl (o_call Try.call9 rfl (fun w_ hp_ => New_spec 5 w_) ?_)
  rintro _ _ hN
  rw [NewΦ, if_neg (by decide)] at hN
  obtain ⟨bH, hm1, rfl, rfl, hH1⟩ := hN
  dsimp only [List.cons_append, List.nil_append]
  refine f_stepP rfl rfl rfl (o_move rfl) ?_
  refine f_stepP rfl rfl rfl (o_extract rfl rfl) ?_
  refine f_stepP rfl rfl rfl (o_extract rfl rfl) ?_
  refine f_stepP rfl rfl rfl (o_assign rfl) ?_
  refine f_stepP rfl rfl rfl (o_assign rfl) ?_
  refine f_done ?_
  refine f_tn (kh2 _ _ ?_)
  clear kh2
  refine f_seq fun K3 kh3 => ?_
  refine f_seq fun K4 kh4 => ?_
  refine f_region ?_
  refine f_stepP rfl rfl rfl (o_move rfl) ?_
  refine f_stepP rfl rfl rfl (o_eqlN (by kernel_rfl) rfl rfl) ?_
  refine f_stepP rfl rfl rfl (o_move rfl) ?_
  refine f_stepPY rfl rfl rfl rfl rfl (o_move rfl) ?_
  refine f_stepPY rfl rfl rfl rfl rfl (o_neq rfl rfl) ?_
  refine f_stepP rfl rfl rfl (o_pickF rfl rfl) ?_
  refine f_done ?_
  refine f_tn (kh4 _ _ ?_)
  clear kh4
  refine f_condN rfl (by simp) ?_
  refine f_skip ?_
  refine f_tn (kh3 _ _ ?_)
  clear kh3
  refine f_seq fun K5 kh5 => ?_
  refine f_region ?_
  refine f_stepP rfl rfl rfl (o_move rfl) ?_
  refine f_step rfl rfl rfl (o_callM [hm1] _ Try.call10 rfl (Sub.pick Sub.refl) (fun w_ hp_ => Lower_spec (List.replicate (5 : Int).toNat none) bH hm1 3 7 w_ hH1 hp_.owns) ?_)
  rintro _ _ ⟨rfl, hm2, rfl, hH2⟩
  rw [wl1] at hH2 ⊢
  dsimp only [List.cons_append, List.nil_append]
  refine f_stepP rfl rfl rfl (o_move rfl) ?_
  refine f_stepP rfl rfl rfl (o_extract rfl rfl) ?_
  refine f_stepP rfl rfl rfl (o_extract rfl rfl) ?_
  refine f_stepP rfl rfl rfl (o_assign rfl) ?_
  refine f_stepP rfl rfl rfl (o_assign rfl) ?_
  refine f_done ?_
  refine f_tn (kh5 _ _ ?_)
  clear kh5
  refine f_seq fun K6 kh6 => ?_
  refine f_region ?_
  refine f_stepP rfl rfl rfl (o_move rfl) ?_
  refine f_step rfl rfl rfl (o_callM [hm2] _ Try.call10 rfl (Sub.pick Sub.refl) (fun w_ hp_ => Lower_spec [none, none, none, some 7, none] bH hm2 1 7 w_ hH2 hp_.owns) ?_)
  rintro _ _ ⟨rfl, hm3, rfl, hH3⟩
  rw [wl2] at hH3 ⊢
  dsimp only [List.cons_append, List.nil_append]
  refine f_stepP rfl rfl rfl (o_move rfl) ?_
  refine f_stepP rfl rfl rfl (o_extract rfl rfl) ?_
  refine f_stepP rfl rfl rfl (o_extract rfl rfl) ?_
  refine f_stepP rfl rfl rfl (o_assign rfl) ?_
  refine f_stepP rfl rfl rfl (o_assign rfl) ?_
  refine f_done ?_
  refine f_tn (kh6 _ _ ?_)
  clear kh6
  refine f_seq fun K7 kh7 => ?_
  refine f_region ?_
  refine f_stepP rfl rfl rfl (o_move rfl) ?_
  refine f_step rfl rfl rfl (o_callM [hm3] _ Try.call10 rfl (Sub.pick Sub.refl) (fun w_ hp_ => Lower_spec [none, some 7, none, some 7, none] bH hm3 3 9 w_ hH3 hp_.owns) ?_)
  rintro _ _ ⟨rfl, hm4, rfl, hH4⟩
  rw [wl3] at hH4 ⊢
  dsimp only [List.cons_append, List.nil_append]
  refine f_stepP rfl rfl rfl (o_move rfl) ?_
  refine f_stepP rfl rfl rfl (o_extract rfl rfl) ?_
  refine f_stepP rfl rfl rfl (o_extract rfl rfl) ?_
  refine f_stepP rfl rfl rfl (o_assign rfl) ?_
  refine f_stepP rfl rfl rfl (o_assign rfl) ?_
  refine f_done ?_
  refine f_tn (kh7 _ _ ?_)
  clear kh7
  refine f_seq fun K8 kh8 => ?_
  refine f_region ?_
  refine f_stepP rfl rfl rfl (o_move rfl) ?_
  refine f_step rfl rfl rfl (o_callM [hm4] _ Try.call10 rfl (Sub.pick Sub.refl) (fun w_ hp_ => Lower_spec [none, some 7, none, some 7, none] bH hm4 3 2 w_ hH4 hp_.owns) ?_)
  rintro _ _ ⟨rfl, hm5, rfl, hH5⟩
  rw [wl4] at hH5 ⊢
  dsimp only [List.cons_append, List.nil_append]
  refine f_stepP rfl rfl rfl (o_move rfl) ?_
  refine f_stepP rfl rfl rfl (o_extract rfl rfl) ?_
  refine f_stepP rfl rfl rfl (o_extract rfl rfl) ?_
  refine f_stepP rfl rfl rfl (o_assign rfl) ?_
  refine f_stepP rfl rfl rfl (o_assign rfl) ?_
  refine f_done ?_
  refine f_tn (kh8 _ _ ?_)
  clear kh8
  refine f_seq fun K9 kh9 => ?_
  refine f_region ?_
  refine f_stepP rfl rfl rfl (o_move rfl) ?_
  refine f_step rfl rfl rfl (o_callM [hm5] _ Try.call12 rfl (Sub.pick Sub.refl) (fun w_ hp_ => HPop_spec [none, some 7, none, some 2, none] bH hm5 w_ hH5 hp_.owns) ?_)
  rintro _ _ ⟨rfl, hm6, rfl, hH6⟩
  rw [wl5]
  rw [wl6] at hH6
  dsimp only [List.cons_append, List.nil_append]
  refine f_stepP rfl rfl rfl (o_move rfl) ?_
  refine f_stepP rfl rfl rfl (o_extract rfl rfl) ?_
  refine f_stepP rfl rfl rfl (o_extract rfl rfl) ?_
  refine f_stepP rfl rfl rfl (o_extract rfl rfl) ?_
  refine f_stepP rfl rfl rfl (o_assign rfl) ?_
  refine f_stepP rfl rfl rfl (o_assign rfl) ?_
  refine f_stepP rfl rfl rfl (o_assign rfl) ?_
  refine f_done ?_
  refine f_tn (kh9 _ _ ?_)
  clear kh9
  refine f_seq fun K10 kh10 => ?_
  refine f_region ?_
  refine f_stepP rfl rfl rfl (o_move rfl) ?_
  refine f_stepP rfl rfl rfl (o_move rfl) ?_
  refine f_stepPY rfl rfl rfl rfl rfl (o_move rfl) ?_
  refine f_stepP rfl rfl rfl (o_pickT rfl rfl) ?_
  refine f_stepP rfl rfl rfl (o_move rfl) ?_
  refine f_stepPY rfl rfl rfl rfl rfl (o_move rfl) ?_
  refine f_stepPY rfl rfl rfl rfl rfl (o_not rfl) ?_
  refine f_stepP rfl rfl rfl (o_pickT rfl rfl) ?_
  refine f_stepP rfl rfl rfl (o_move rfl) ?_
  refine f_stepPY rfl rfl rfl rfl rfl (o_move rfl) ?_
  refine f_stepP rfl rfl rfl (o_pickT rfl rfl) ?_
  refine f_stepP rfl rfl rfl (o_move rfl) ?_
  refine f_stepPY rfl rfl rfl rfl rfl (o_move rfl) ?_
  refine f_stepPY rfl rfl rfl rfl rfl (o_eql rfl rfl) ?_
  refine f_stepP rfl rfl rfl (o_pickT rfl rfl) ?_
  refine f_stepP rfl rfl rfl (o_move rfl) ?_
  refine f_trueL 65 rfl (rfl) ?_
  refine f_stepPY rfl rfl rfl rfl rfl (o_move rfl) ?_
  refine f_stepPY rfl rfl rfl rfl rfl (o_eql rfl rfl) ?_
  refine f_stepP rfl rfl rfl (o_pickT rfl rfl) ?_
  refine f_stepP rfl rfl rfl (o_move rfl) ?_
  refine f_trueL 69 rfl (rfl) ?_
  refine f_stepPY rfl rfl rfl rfl rfl (o_move rfl) ?_
  refine f_stepPY rfl rfl rfl rfl rfl (o_eql rfl rfl) ?_
  refine f_stepP rfl rfl rfl (o_pickT rfl rfl) ?_
  refine f_stepP rfl rfl rfl (o_move rfl) ?_
  refine f_trueL 73 rfl (rfl) ?_
  refine f_stepPY rfl rfl rfl rfl rfl (o_move rfl) ?_
  refine f_stepY rfl rfl rfl rfl rfl (o_callM [hm6] _ Try.call11 rfl (Sub.pick Sub.refl) (fun w_ hp_ => Len_spec [none, some 7, none, none, none] bH hm6 w_ hH6 hp_.owns) ?_)
  rintro _ _ ⟨rfl, rfl⟩
  dsimp only [List.cons_append, List.nil_append]
  refine f_stepPY rfl rfl rfl rfl rfl (o_eql rfl rfl) ?_
  refine f_stepP rfl rfl rfl (o_pickT rfl rfl) ?_
  refine f_stepP rfl rfl rfl (o_assign rfl) ?_
  refine f_done ?_
  refine f_tn (kh10 _ _ ?_)
  clear kh10
  refine f_ret ?_
  exact f_fin1 [] Try.results8 rfl Sub.nil ⟨rfl, rfl⟩

end Go.Proofs.Ytpooabplhgdfmaa
