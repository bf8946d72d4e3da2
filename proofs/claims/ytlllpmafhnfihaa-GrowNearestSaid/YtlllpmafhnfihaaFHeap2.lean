/- container/heap: down, Fix, Push, Pop, Remove over the tree. -/
import Derived.Test.YtlllpmafhnfihaaFHeap
namespace Go.Proofs.Ytlllpmafhnfihaa
open Go Go.RowKit Fly
set_option linter.unusedVariables false
set_option linter.unusedSimpArgs false


/-- What down leaves. -/
def DnG (n i0 : Nat) (b : Bool) (l' : List Ent) : Prop := (b = true → Full l' n) ∧ (b = false → UpOk l' n i0)
theorem dn_kids {l : List Ent} {n i j : Nat} (h : ele (eg l i) (eg l j)) (hb : ∀ c, 0 < c → c < n → par c = i → ele (eg l j) (eg l c)) : ∀ c, 0 < c → c < n → par c = i → ele (eg l i) (eg l c) := fun c c0 cn hc => ele_trans h (hb c c0 cn hc)
theorem kid_one {l : List Ent} {n i : Nat} (h1 : 2 * i + 1 < n) (h2 : ¬ 2 * i + 2 < n) : ∀ c, 0 < c → c < n → par c = i → ele (eg l (2 * i + 1)) (eg l c) := fun c c0 cn hc => by
  rcases pars c0 hc with rfl | rfl
  · exact ele_refl _
  · omega
theorem kid_right {l : List Ent} {n i : Nat} (h : elt (eg l (2 * i + 2)) (eg l (2 * i + 1))) : ∀ c, 0 < c → c < n → par c = i → ele (eg l (2 * i + 2)) (eg l c) := fun c c0 cn hc => by
  rcases pars c0 hc with rfl | rfl
  · exact ele_of h
  · exact ele_refl _
theorem kid_left {l : List Ent} {n i : Nat} (h : ¬ elt (eg l (2 * i + 2)) (eg l (2 * i + 1))) : ∀ c, 0 < c → c < n → par c = i → ele (eg l (2 * i + 1)) (eg l c) := fun c c0 cn hc => by
  rcases pars c0 hc with rfl | rfl
  · exact ele_refl _
  · exact h
theorem par_left (i : Nat) : par (2 * i + 1) = i := by unfold par; omega
theorem par_right (i : Nat) : par (2 * i + 2) = i := by unfold par; omega
theorem own_cap {E sz len len' cap : Nat} {A : Option Addr} {cs : List Value} {m : Seg} (h : Own E sz (.slice A len cap) len' cs m) : len ≤ cap ∧ cap ≤ 9223372036854775807 := by
  rcases h.2 with ⟨e, rfl, _⟩ | ⟨b, c, sp, e, _, h1, h2, _⟩
  · obtain ⟨_, rfl, rfl⟩ := Value.slice.inj e; omega
  · obtain ⟨_, rfl, rfl⟩ := Value.slice.inj e; omega
theorem take_last {l : List Ent} {n : Nat} (h : l.length = n + 1) : l = l.take n ++ [eg l n] := by
  rw [eg_eq (by omega), ← List.take_succ_eq_append_getElem (by omega), List.take_of_length_le (by omega)]
theorem eg_drop {l l' : List Ent} {n : Nat} (h : l'.drop n = l.drop n) : eg l' n = eg l n := by
  have e : ∀ l : List Ent, eg l n = (l.drop n).getD 0 ⟨0, 0⟩ := fun l => by simp [eg, List.getD_eq_getElem?_getD]
  rw [e, e, h]
theorem dn_full {l : List Ent} {n : Nat} {b : Bool} (h : DnG n 0 b l) : Full l n := by
  cases b
  · exact up_zero (h.2 rfl)
  · exact h.1 rfl
/-- What Pop and Remove leave. -/
def Cut (bT bA N n : Nat) (A : Option Addr) (cap : Nat) (l : List Ent) (e : Ent) (own : List Seg) : Prop :=
  ∃ l2 m' at', own = tsegs bT bA N (.slice A l2.length cap) m' at' ∧ Own 106 2 (.slice A l2.length cap) l2.length (l2.flatMap entCs) m' ∧ l2.length = n ∧ HOk l2 at' ∧ at'.length = N ∧ Full l2 l2.length ∧ (e :: l2).Perm l
theorem flat_take {l : List Ent} {n : Nat} : (l.flatMap entCs).take (n * 2) = (l.take n).flatMap entCs := by
  induction l generalizing n with
  | nil => simp
  | cons x l ih =>
    cases n with
    | zero => simp
    | succ n =>
      rw [List.flatMap_cons, List.take_succ_cons, List.flatMap_cons, List.take_append, List.take_of_length_le (by rw [entCs_len]; omega), entCs_len, show (n + 1) * 2 - 2 = n * 2 from by omega, ih]
theorem cut_mk {bT bA N n cap : Nat} {A : Option Addr} {l l' : List Ent} {e : Ent} {m' : Seg} {at' : List Int} (ho : Own 106 2 (.slice A l'.length cap) l'.length (l'.flatMap entCs) m') (hl : l'.length = n + 1) (hH : HOk l' at') (hN : at'.length = N) (hF : Full l' n) (hp : l'.Perm l) (he : eg l' n = e) :
    Cut bT bA N n A cap l e (tsegs bT bA N (.slice A n cap) m' (at'.set (eg l' n).id (-1))) := by
  have h2 : (l'.take n).length = n := by simp; omega
  have ho2 := ho.head (n := n) (by omega)
  rw [flat_take] at ho2
  exact ⟨l'.take n, m', _, by rw [h2], by rw [h2]; exact ho2, h2, hH.pop hl, by simpa using hN, by rw [h2]; exact full_take hF, by
    refine List.Perm.trans ?_ hp
    conv => rhs; rw [take_last hl]
    rw [he]
    exact (List.perm_append_comm (l₁ := [e]))⟩
theorem dn_end {l : List Ent} {n i0 i : Nat} (h : ∀ c, 0 < c → c < n → (c ≠ i ∨ i ≠ i0) → ele (eg l (par c)) (eg l c)) (hd : DnOk l n i0 i) (hle : i0 ≤ i) : DnG n i0 (decide ((i0 : Int) < (i : Int))) l := by
  refine ⟨fun hb => dn_moved h (by have := of_decide_eq_true hb; omega), fun hb => ?_⟩
  have : i = i0 := by have := of_decide_eq_false hb; omega
  subst this
  exact dn_stays h hd

set_option maxRecDepth 100000 in
set_option maxHeartbeats 4000000 in
theorem down_spec (bT bA N : Nat) (A : Option Addr) (cap : Nat) (m : Seg) (at_ : List Int) (l : List Ent) (n i0 : Nat) (w : World) (ho : Own 106 2 (.slice A l.length cap) l.length (l.flatMap entCs) m) (hH : HOk l at_) (hN : at_.length = N) (hD : DnOk l n i0 i0) (hi : i0 ≤ l.length) (hn : n ≤ l.length) (hl : l.length ≤ 500000) (hw : Owns w (tsegs bT bA N (.slice A l.length cap) m at_)) : Meets Try.prog 82 [.iface 100 (.pointer (some ⟨bT, 0, none⟩)), .int .i64 (i0 : Int), .int .i64 (n : Int)] w (tsegs bT bA N (.slice A l.length cap) m at_) (fun u own' => ∃ b : Bool, u = .bool b ∧ Left bT bA N (.slice A l.length cap) l n own' (DnG n i0 b)) := by
  refine f_enter Try.func82 rfl Try.ntmps82 rfl hw ?_
  refine f_seq fun K1 kh1 => ?_
  refine f_region ?_
  refine f_stepP rfl rfl rfl (o_assign rfl) ?_
  refine f_done ?_
  refine f_tn (kh1 _ _ ?_)
  clear kh1
  refine f_seq fun K2 kh2 => ?_
  refine f_region ?_
  refine f_stepP rfl rfl rfl (o_move rfl) ?_
  refine f_stepP rfl rfl rfl (o_assign rfl) ?_
  refine f_done ?_
  refine f_tn (kh2 _ _ ?_)
  clear kh2
  refine f_seq fun K3 kh3 => ?_
  refine f_block ?_
  refine f_loop (α := Nat × List Ent × Seg × List Int) [0, 1, 2] (fun ⟨i, l', m', at'⟩ => [(7, .int .i64 (i : Int))]) (fun ⟨i, l', m', at'⟩ => [[(bT, blk [.slice A l.length cap, .slice (some ⟨bA, 0, none⟩) N N, .func (.func 66) #[] #[]] 104)], m', [(bA, blk (ints at') 3)]]) (fun ⟨i, l', m', at'⟩ => Own 106 2 (.slice A l'.length cap) l'.length (l'.flatMap entCs) m' ∧ HOk l' at' ∧ at'.length = N ∧ DnOk l' n i0 i ∧ i0 ≤ i ∧ i ≤ l.length ∧ l'.Perm l ∧ l'.drop n = l.drop n) (fun ⟨i, l', m', at'⟩ => l.length - i) (i0, l, m, at_) ?_ ?_ ?_ ?_
  · exact (by repeat (first | exact trivial | refine ⟨rfl, ?_⟩))
  · repeat (first | exact Sub.nil | refine Sub.pick ?_ | refine Sub.castO rfl ?_ | refine Sub.skip ?_)
  · exact ⟨ho, hH, hN, hD, Nat.le_refl _, hi, List.Perm.refl _, rfl⟩
  · rintro ⟨i, l', m', at'⟩ ⟨ho', hH', hN', hD', hle, hil, hp', hd'⟩
    have hll := hp'.length_eq
    refine f_block ?_
    refine f_seq fun K4 kh4 => ?_
    refine f_region ?_
    refine f_stepP rfl rfl rfl (o_move rfl) ?_
    refine f_stepP rfl rfl rfl (o_mul rfl rfl _ (wrap_i64 (by omega))) ?_
    refine f_stepP rfl rfl rfl (o_add rfl rfl _ (wrap_two (by omega))) ?_
    refine f_stepP rfl rfl rfl (o_assign rfl) ?_
    refine f_done ?_
    refine f_tn (kh4 _ _ ?_)
    clear kh4
    refine f_seq fun K5 kh5 => ?_
    refine f_seq fun K6 kh6 => ?_
    refine f_region ?_
    refine f_stepP rfl rfl rfl (o_move rfl) ?_
    refine f_stepP rfl rfl rfl (o_move rfl) ?_
    refine f_stepP rfl rfl rfl (o_geq rfl rfl) ?_
    refine f_stepP rfl rfl rfl (o_move rfl) ?_
    refine f_splitL 18 rfl (fun g18 => ?_) (fun g18 => ?_)
    · skip
      refine f_stepN rfl rfl rfl rfl rfl rfl ?_
      refine f_stepN rfl rfl rfl rfl rfl rfl ?_
      refine f_stepP rfl rfl rfl (o_pickT rfl rfl) ?_
      refine f_done ?_
      refine f_tn (kh6 _ _ ?_)
      clear kh6
      refine f_condT rfl ?_
      refine f_exit ?_
      refine f_te ?_
      clear kh5
      refine f_bo rfl ?_
      refine f_te ?_
      refine f_be ?_
      refine f_tn (kh3 _ _ ?_)
      clear kh3
      refine f_seq fun K7 kh7 => ?_
      refine f_region ?_
      refine f_stepP rfl rfl rfl (o_move rfl) ?_
      refine f_stepP rfl rfl rfl (o_move rfl) ?_
      refine f_stepP rfl rfl rfl (o_gtr rfl rfl) ?_
      refine f_stepP rfl rfl rfl (o_assign rfl) ?_
      refine f_done ?_
      refine f_tn (kh7 _ _ ?_)
      clear kh7
      refine f_ret ?_
      exact f_fin1 (tsegs bT bA N (.slice A l.length cap) m' at') Try.results82 rfl (by repeat (first | exact Sub.nil | refine Sub.pick ?_ | refine Sub.castO rfl ?_)) ⟨_, rfl, l', m', at', rfl, by rw [hll] at ho'; rw [hll]; exact ho', hH', hN', hp', hd', dn_end (dn_stop hD' fun c c0 cn hc => by have := pars c0 hc; omega) hD' hle⟩
    · skip
      refine f_stepPY rfl rfl rfl rfl rfl (o_move rfl) ?_
      refine f_stepPY rfl rfl rfl rfl rfl (o_lss rfl rfl) ?_
      refine f_stepP rfl rfl rfl (o_pickF rfl rfl) ?_
      refine f_done ?_
      refine f_tn (kh6 _ _ ?_)
      clear kh6
      refine f_condN rfl (by omega) ?_
      refine f_skip ?_
      refine f_tn (kh5 _ _ ?_)
      clear kh5
      refine f_seq fun K8 kh8 => ?_
      refine f_region ?_
      refine f_stepP rfl rfl rfl (o_move rfl) ?_
      refine f_stepP rfl rfl rfl (o_assign rfl) ?_
      refine f_done ?_
      refine f_tn (kh8 _ _ ?_)
      clear kh8
      refine f_meet (α := Nat) [0, 1, 2, 7] (fun jj => [(9, .int .i64 (jj : Int))]) (fun jj => [[(bT, blk [.slice A l.length cap, .slice (some ⟨bA, 0, none⟩) N N, .func (.func 66) #[] #[]] 104)], m', [(bA, blk (ints at') 3)]]) (fun jj => 0 < jj ∧ par jj = i ∧ jj < n ∧ ∀ c, 0 < c → c < n → par c = i → ele (eg l' jj) (eg l' c)) ?_ ?_
      · intro K9 kh9
        refine f_seq fun K10 kh10 => ?_
        refine f_region ?_
        refine f_stepP rfl rfl rfl (o_move rfl) ?_
        refine f_stepP rfl rfl rfl (o_add rfl rfl _ (wrap_two2 (by omega))) ?_
        refine f_stepP rfl rfl rfl (o_assign rfl) ?_
        refine f_done ?_
        refine f_tn (kh10 _ _ ?_)
        clear kh10
        refine f_seq fun K11 kh11 => ?_
        refine f_region ?_
        refine f_stepP rfl rfl rfl (o_move rfl) ?_
        refine f_stepP rfl rfl rfl (o_move rfl) ?_
        refine f_stepP rfl rfl rfl (o_lss rfl rfl) ?_
        refine f_stepP rfl rfl rfl (o_move rfl) ?_
        refine f_splitL 28 rfl (fun g28 => ?_) (fun g28 => ?_)
        · skip
          refine f_stepPY rfl rfl rfl rfl rfl (o_move rfl) ?_
          refine f_stepPY rfl rfl rfl rfl rfl (o_move rfl) ?_
          refine f_stepPY rfl rfl rfl rfl rfl (o_move rfl) ?_
          refine f_stepY rfl rfl rfl rfl rfl (o_invoke (tsegs bT bA N (.slice A l'.length cap) m' at') _ (inv_Less (some ⟨bT, 0, none⟩)) rfl rfl (by rw [hll]; unfold tsegs; exact Sub.pick (Sub.pick (Sub.pick Sub.refl))) (fun w_ hp_ => Less_spec bT bA N A cap m' at' l' (2 * i + 2) (2 * i + 1) w_ ho' (by omega) (by omega) hp_.owns) ?_)
          rintro _ _ ⟨rfl, rfl⟩
          unfold tsegs
          rw [hll]
          dsimp only [List.cons_append, List.nil_append]
          refine f_stepP rfl rfl rfl (o_pickT rfl rfl) ?_
          refine f_done ?_
          refine f_tn (kh11 _ _ ?_)
          clear kh11
          refine f_cond rfl (fun c33 => ?_) (fun c33 => ?_)
          · skip
            refine f_region ?_
            refine f_stepP rfl rfl rfl (o_move rfl) ?_
            refine f_stepP rfl rfl rfl (o_assign rfl) ?_
            refine f_done ?_
            refine f_tn (kh9 _ _ (2 * i + 2) ⟨by omega, par_right i, by omega, kid_right c33⟩ ?_ ?_ ?_)
            · exact (by repeat (first | exact trivial | refine ⟨rfl, ?_⟩))
            · exact (by repeat (first | exact trivial | refine ⟨rfl, ?_⟩))
            · repeat (first | exact Sub.nil | refine Sub.pick ?_ | refine Sub.castO rfl ?_ | refine Sub.skip ?_)
          · skip
            refine f_skip ?_
            refine f_tn (kh9 _ _ (2 * i + 1) ⟨by omega, par_left i, by omega, kid_left c33⟩ ?_ ?_ ?_)
            · exact (by repeat (first | exact trivial | refine ⟨rfl, ?_⟩))
            · exact (by repeat (first | exact trivial | refine ⟨rfl, ?_⟩))
            · repeat (first | exact Sub.nil | refine Sub.pick ?_ | refine Sub.castO rfl ?_ | refine Sub.skip ?_)
        · skip
          refine f_stepN rfl rfl rfl rfl rfl rfl ?_
          refine f_stepN rfl rfl rfl rfl rfl rfl ?_
          refine f_stepN rfl rfl rfl rfl rfl rfl ?_
          refine f_stepN rfl rfl rfl rfl rfl rfl ?_
          refine f_stepP rfl rfl rfl (o_pickF rfl rfl) ?_
          refine f_done ?_
          refine f_tn (kh11 _ _ ?_)
          clear kh11
          refine f_condF rfl ?_
          refine f_skip ?_
          refine f_tn (kh9 _ _ (2 * i + 1) ⟨by omega, par_left i, by omega, kid_one (by omega) (by omega)⟩ ?_ ?_ ?_)
          · exact (by repeat (first | exact trivial | refine ⟨rfl, ?_⟩))
          · exact (by repeat (first | exact trivial | refine ⟨rfl, ?_⟩))
          · repeat (first | exact Sub.nil | refine Sub.pick ?_ | refine Sub.castO rfl ?_ | refine Sub.skip ?_)
      · rintro jj ⟨hj0, hjp, hjn, hjb⟩
        have hij : i < jj := by unfold par at hjp; omega
        refine f_seq fun K12 kh12 => ?_
        refine f_seq fun K13 kh13 => ?_
        refine f_region ?_
        refine f_stepP rfl rfl rfl (o_move rfl) ?_
        refine f_stepP rfl rfl rfl (o_move rfl) ?_
        refine f_stepP rfl rfl rfl (o_move rfl) ?_
        refine f_step rfl rfl rfl (o_invoke (tsegs bT bA N (.slice A l'.length cap) m' at') _ (inv_Less (some ⟨bT, 0, none⟩)) rfl rfl (by rw [hll]; unfold tsegs; exact Sub.pick (Sub.pick (Sub.pick Sub.refl))) (fun w_ hp_ => Less_spec bT bA N A cap m' at' l' (jj) (i) w_ ho' (by omega) (by omega) hp_.owns) ?_)
        rintro _ _ ⟨rfl, rfl⟩
        unfold tsegs
        rw [hll]
        dsimp only [List.cons_append, List.nil_append]
        refine f_stepP rfl rfl rfl (o_not rfl) ?_
        refine f_done ?_
        refine f_tn (kh13 _ _ ?_)
        clear kh13
        refine f_condB rfl (fun c39 => ?_) (fun c39 => ?_)
        · skip
          refine f_exit ?_
          refine f_te ?_
          clear kh12
          refine f_bo rfl ?_
          refine f_te ?_
          refine f_be ?_
          refine f_tn (kh3 _ _ ?_)
          clear kh3
          refine f_seq fun K14 kh14 => ?_
          refine f_region ?_
          refine f_stepP rfl rfl rfl (o_move rfl) ?_
          refine f_stepP rfl rfl rfl (o_move rfl) ?_
          refine f_stepP rfl rfl rfl (o_gtr rfl rfl) ?_
          refine f_stepP rfl rfl rfl (o_assign rfl) ?_
          refine f_done ?_
          refine f_tn (kh14 _ _ ?_)
          clear kh14
          refine f_ret ?_
          exact f_fin1 (tsegs bT bA N (.slice A l.length cap) m' at') Try.results82 rfl (by repeat (first | exact Sub.nil | refine Sub.pick ?_ | refine Sub.castO rfl ?_)) ⟨_, rfl, l', m', at', rfl, by rw [hll] at ho'; rw [hll]; exact ho', hH', hN', hp', hd', dn_end (dn_stop hD' (dn_kids (show ¬ elt (eg l' jj) (eg l' i) from by simpa using c39) hjb)) hD' hle⟩
        · skip
          have c39 : elt (eg l' jj) (eg l' i) := by simpa using c39
          refine f_skip ?_
          refine f_tn (kh12 _ _ ?_)
          clear kh12
          refine f_seq fun K15 kh15 => ?_
          refine f_region ?_
          refine f_stepP rfl rfl rfl (o_move rfl) ?_
          refine f_stepP rfl rfl rfl (o_move rfl) ?_
          refine f_stepP rfl rfl rfl (o_move rfl) ?_
          refine f_step rfl rfl rfl (o_invoke (tsegs bT bA N (.slice A l'.length cap) m' at') _ (inv_Swap (some ⟨bT, 0, none⟩)) rfl rfl (by rw [hll]; unfold tsegs; exact Sub.pick (Sub.pick (Sub.pick Sub.refl))) (fun w_ hp_ => Swap_spec bT bA N A cap m' at' l' (i) (jj) w_ ho' hH' hN' (by omega) (by omega) hp_.owns) ?_)
          rintro _ _ ⟨rfl, m'', rfl, ho''⟩
          unfold tsegs
          rw [hll]
          dsimp only [List.cons_append, List.nil_append]
          refine f_done ?_
          refine f_tn (kh15 _ _ ?_)
          clear kh15
          refine f_region ?_
          refine f_stepP rfl rfl rfl (o_move rfl) ?_
          refine f_stepP rfl rfl rfl (o_assign rfl) ?_
          refine f_done ?_
          refine f_bn ?_
          refine f_tn (f_again (jj, sw l' i jj, m'', swAt l' at' i jj) (by dsimp only; omega) ⟨by rw [sw_len]; exact ho'', hH'.sw (by omega) (by omega), by rw [swAt_len]; exact hN', dn_step hD' hle hj0 hjp hjn (by omega) c39 hjb, by omega, by omega, (sw_perm (by omega) (by omega)).trans hp', by rw [sw_drop (by omega) hjn]; exact hd'⟩ ?_ ?_ ?_)
          · exact (by repeat (first | exact trivial | refine ⟨rfl, ?_⟩))
          · exact (by repeat (first | exact trivial | refine ⟨rfl, ?_⟩))
          · repeat (first | exact Sub.nil | refine Sub.pick ?_ | refine Sub.castO rfl ?_ | refine Sub.skip ?_)

set_option maxRecDepth 100000 in
set_option maxHeartbeats 4000000 in
theorem Fix_spec (bT bA N : Nat) (A : Option Addr) (cap : Nat) (m : Seg) (at_ : List Int) (l : List Ent) (i : Nat) (w : World) (ho : Own 106 2 (.slice A l.length cap) l.length (l.flatMap entCs) m) (hH : HOk l at_) (hN : at_.length = N) (hD : DnOk l l.length i i) (hi : i < l.length) (hl : l.length ≤ 500000) (hw : Owns w (tsegs bT bA N (.slice A l.length cap) m at_)) : Meets Try.prog 69 [.iface 100 (.pointer (some ⟨bT, 0, none⟩)), .int .i64 (i : Int)] w (tsegs bT bA N (.slice A l.length cap) m at_) (fun u own' => Left bT bA N (.slice A l.length cap) l l.length own' (fun l' => Full l' l.length)) := by
  refine f_enter Try.func69 rfl Try.ntmps69 rfl hw ?_
  refine f_seq fun K1 kh1 => ?_
  refine f_region ?_
  refine f_stepP rfl rfl rfl (o_move rfl) ?_
  refine f_stepP rfl rfl rfl (o_move rfl) ?_
  refine f_stepP rfl rfl rfl (o_move rfl) ?_
  refine f_step rfl rfl rfl (o_invoke (tsegs bT bA N (.slice A l.length cap) m at_) _ (inv_Len (some ⟨bT, 0, none⟩)) rfl rfl (by unfold tsegs; exact Sub.pick (Sub.pick (Sub.pick Sub.refl))) (fun w_ hp_ => TLen_spec bT bA N A cap m at_ l w_ hp_.owns) ?_)
  rintro _ _ ⟨rfl, rfl⟩
  unfold tsegs
  dsimp only [List.cons_append, List.nil_append]
  refine f_step rfl rfl rfl (o_callM (tsegs bT bA N (.slice A l.length cap) m at_) _ Try.call82 rfl (by unfold tsegs; exact Sub.pick (Sub.pick (Sub.pick Sub.refl))) (fun w_ hp_ => down_spec bT bA N A cap m at_ l l.length i w_ ho hH hN hD (by omega) (Nat.le_refl _) hl hp_.owns) ?_)
  rintro _ _ ⟨b, rfl, l', m', at', rfl, ho', hH', hN', hp', hd', hG⟩
  unfold tsegs
  have hll := hp'.length_eq
  dsimp only [List.cons_append, List.nil_append]
  refine f_stepP rfl rfl rfl (o_not rfl) ?_
  refine f_done ?_
  refine f_tn (kh1 _ _ ?_)
  clear kh1
  refine f_condB rfl (fun c9 => ?_) (fun c9 => ?_)
  · skip
    refine f_region ?_
    refine f_stepP rfl rfl rfl (o_move rfl) ?_
    refine f_stepP rfl rfl rfl (o_move rfl) ?_
    refine f_step rfl rfl rfl (o_callM (tsegs bT bA N (.slice A l'.length cap) m' at') _ Try.call81 rfl (by rw [hll]; unfold tsegs; exact Sub.pick (Sub.pick (Sub.pick Sub.refl))) (fun w_ hp_ => up_spec bT bA N A cap m' at' l' l.length i w_ (by rw [← hll] at ho'; exact ho') hH' hN' (hG.2 (by simpa using c9)) (by omega) (by omega) (by omega) hp_.owns) ?_)
    rintro _ _ ⟨rfl, l3, m3, at3, rfl, ho3, hH3, hN3, hp3, hd3, hF3⟩
    unfold tsegs
    rw [hll]
    dsimp only [List.cons_append, List.nil_append]
    refine f_done ?_
    exact f_fin0n (tsegs bT bA N (.slice A l.length cap) m3 at3) Try.results69 (by repeat (first | exact Sub.nil | refine Sub.pick ?_ | refine Sub.castO rfl ?_)) ⟨l3, m3, at3, rfl, by rw [← hll]; exact ho3, hH3, hN3, hp3.trans hp', hd3.trans hd', hF3⟩
  · skip
    refine f_skip ?_
    exact f_fin0n (tsegs bT bA N (.slice A l.length cap) m' at') Try.results69 (by repeat (first | exact Sub.nil | refine Sub.pick ?_ | refine Sub.castO rfl ?_)) ⟨l', m', at', rfl, ho', hH', hN', hp', hd', hG.1 (by simpa using c9)⟩

set_option maxRecDepth 100000 in
set_option maxHeartbeats 4000000 in
theorem Push_spec (bT bA N : Nat) (A : Option Addr) (cap : Nat) (m : Seg) (at_ : List Int) (l : List Ent) (e : Ent) (w : World) (ho : Own 106 2 (.slice A l.length cap) l.length (l.flatMap entCs) m) (hH : HOk l at_) (hN : at_.length = N) (hF : Full l l.length) (he : at_[e.id]? = some (-1)) (hl : l.length ≤ 100000) (hw : Owns w (tsegs bT bA N (.slice A l.length cap) m at_)) : Meets Try.prog 68 [.iface 100 (.pointer (some ⟨bT, 0, none⟩)), .iface 106 (.agg (entCs e).toArray)] w (tsegs bT bA N (.slice A l.length cap) m at_) (fun u own' => ∃ A' cap', Left bT bA N (.slice A' (l ++ [e]).length cap') (l ++ [e]) (l ++ [e]).length own' (fun l' => Full l' (l ++ [e]).length)) := by
  have hlt : e.id < N := by rw [← hN]; exact (List.getElem?_eq_some_iff.1 he).1
  have hle : (l ++ [e]).length = l.length + 1 := by simp
  refine f_enter Try.func68 rfl Try.ntmps68 rfl hw ?_
  refine f_seq fun K1 kh1 => ?_
  refine f_region ?_
  refine f_stepP rfl rfl rfl (o_move rfl) ?_
  refine f_stepP rfl rfl rfl (o_move rfl) ?_
  refine f_step rfl rfl rfl (o_invoke (tsegs bT bA N (.slice A l.length cap) m at_) _ (inv_Push (some ⟨bT, 0, none⟩)) rfl rfl (by unfold tsegs; exact Sub.pick (Sub.pick (Sub.pick Sub.refl))) (fun w_ hp_ => TPush_spec bT bA N A cap m at_ l e w_ ho hN hlt (by omega) hp_.owns) ?_)
  rintro _ _ ⟨rfl, A', cap', m2, rfl, ho2⟩
  unfold tsegs
  dsimp only [List.cons_append, List.nil_append]
  refine f_done ?_
  refine f_tn (kh1 _ _ ?_)
  clear kh1
  refine f_region ?_
  refine f_stepP rfl rfl rfl (o_move rfl) ?_
  refine f_stepP rfl rfl rfl (o_move rfl) ?_
  refine f_step rfl rfl rfl (o_invoke (tsegs bT bA N (.slice A' (l ++ [e]).length cap') m2 (at_.set e.id (l.length : Int))) _ (inv_Len (some ⟨bT, 0, none⟩)) rfl rfl (by unfold tsegs; exact Sub.pick (Sub.pick (Sub.pick Sub.refl))) (fun w_ hp_ => TLen_spec bT bA N A' cap' m2 _ (l ++ [e]) w_ hp_.owns) ?_)
  rintro _ _ ⟨rfl, rfl⟩
  unfold tsegs
  dsimp only [List.cons_append, List.nil_append]
  refine f_stepP rfl rfl rfl (o_sub rfl rfl _ (show IntKind.i64.wrap (((l ++ [e]).length : Int) - 1) = (l.length : Int) from by rw [wrap_i64 (by omega)]; omega)) ?_
  refine f_step rfl rfl rfl (o_callM (tsegs bT bA N (.slice A' (l ++ [e]).length cap') m2 (at_.set e.id (l.length : Int))) _ Try.call81 rfl (by unfold tsegs; exact Sub.pick (Sub.pick (Sub.pick Sub.refl))) (fun w_ hp_ => up_spec bT bA N A' cap' m2 _ (l ++ [e]) (l ++ [e]).length l.length w_ ho2 (hH.push he) (by simpa using hN) (by rw [hle]; exact up_push hF) (by omega) (Nat.le_refl _) (by omega) hp_.owns) ?_)
  rintro _ _ ⟨rfl, l3, m3, at3, rfl, ho3, hH3, hN3, hp3, hd3, hF3⟩
  unfold tsegs
  dsimp only [List.cons_append, List.nil_append]
  refine f_done ?_
  exact f_fin0n (tsegs bT bA N (.slice A' (l ++ [e]).length cap') m3 at3) Try.results68 (by repeat (first | exact Sub.nil | refine Sub.pick ?_ | refine Sub.castO rfl ?_)) ⟨A', cap', l3, m3, at3, rfl, ho3, hH3, hN3, hp3, hd3, hF3⟩

set_option maxRecDepth 100000 in
set_option maxHeartbeats 4000000 in
theorem Pop_spec (bT bA N : Nat) (A : Option Addr) (cap : Nat) (m : Seg) (at_ : List Int) (l : List Ent) (n : Nat) (w : World) (ho : Own 106 2 (.slice A l.length cap) l.length (l.flatMap entCs) m) (hH : HOk l at_) (hN : at_.length = N) (hF : Full l l.length) (hn : l.length = n + 1) (hl : l.length ≤ 100000) (hw : Owns w (tsegs bT bA N (.slice A l.length cap) m at_)) : Meets Try.prog 84 [.iface 100 (.pointer (some ⟨bT, 0, none⟩))] w (tsegs bT bA N (.slice A l.length cap) m at_) (fun u own' => Cut bT bA N n A cap l (eg l 0) own') := by
  have hsl := sw_len l 0 n
  refine f_enter Try.func84 rfl Try.ntmps84 rfl hw ?_
  refine f_seq fun K1 kh1 => ?_
  refine f_region ?_
  refine f_stepP rfl rfl rfl (o_assign rfl) ?_
  refine f_done ?_
  refine f_tn (kh1 _ _ ?_)
  clear kh1
  refine f_seq fun K2 kh2 => ?_
  refine f_region ?_
  refine f_stepP rfl rfl rfl (o_move rfl) ?_
  refine f_step rfl rfl rfl (o_invoke (tsegs bT bA N (.slice A l.length cap) m at_) _ (inv_Len (some ⟨bT, 0, none⟩)) rfl rfl (by unfold tsegs; exact Sub.pick (Sub.pick (Sub.pick Sub.refl))) (fun w_ hp_ => TLen_spec bT bA N A cap m at_ l w_ hp_.owns) ?_)
  rintro _ _ ⟨rfl, rfl⟩
  unfold tsegs
  dsimp only [List.cons_append, List.nil_append]
  refine f_stepP rfl rfl rfl (o_sub rfl rfl _ (show IntKind.i64.wrap ((l.length : Int) - 1) = (n : Int) from by rw [wrap_i64 (by omega)]; omega)) ?_
  refine f_stepP rfl rfl rfl (o_assign rfl) ?_
  refine f_done ?_
  refine f_tn (kh2 _ _ ?_)
  clear kh2
  refine f_seq fun K3 kh3 => ?_
  refine f_region ?_
  refine f_stepP rfl rfl rfl (o_move rfl) ?_
  refine f_stepP rfl rfl rfl (o_move rfl) ?_
  refine f_step rfl rfl rfl (o_invoke (tsegs bT bA N (.slice A l.length cap) m at_) _ (inv_Swap (some ⟨bT, 0, none⟩)) rfl rfl (by unfold tsegs; exact Sub.pick (Sub.pick (Sub.pick Sub.refl))) (fun w_ hp_ => Swap_spec bT bA N A cap m at_ l 0 n w_ ho hH hN (by omega) (by omega) hp_.owns) ?_)
  rintro _ _ ⟨rfl, m2, rfl, ho2⟩
  unfold tsegs
  dsimp only [List.cons_append, List.nil_append]
  refine f_done ?_
  refine f_tn (kh3 _ _ ?_)
  clear kh3
  refine f_seq fun K4 kh4 => ?_
  refine f_region ?_
  refine f_stepP rfl rfl rfl (o_move rfl) ?_
  refine f_stepP rfl rfl rfl (o_move rfl) ?_
  refine f_step rfl rfl rfl (o_callM (tsegs bT bA N (.slice A (sw l 0 n).length cap) m2 (swAt l at_ 0 n)) _ Try.call82 rfl (by rw [hsl]; unfold tsegs; exact Sub.pick (Sub.pick (Sub.pick Sub.refl))) (fun w_ hp_ => down_spec bT bA N A cap m2 _ (sw l 0 n) n 0 w_ (by rw [hsl]; exact ho2) (hH.sw (by omega) (by omega)) (by rw [swAt_len]; exact hN) (dn_swap hF hn (by omega)) (by omega) (by omega) (by omega) hp_.owns) ?_)
  rintro _ _ ⟨b, rfl, l', m', at', rfl, ho', hH', hN', hp', hd', hG⟩
  unfold tsegs
  have hll := hp'.length_eq
  rw [hsl] at hll ho' ⊢
  dsimp only [List.cons_append, List.nil_append]
  refine f_done ?_
  refine f_tn (kh4 _ _ ?_)
  clear kh4
  refine f_seq fun K5 kh5 => ?_
  refine f_region ?_
  refine f_stepP rfl rfl rfl (o_move rfl) ?_
  refine f_step rfl rfl rfl (o_invoke (tsegs bT bA N (.slice A l'.length cap) m' at') _ (inv_Pop (some ⟨bT, 0, none⟩)) rfl rfl (by rw [hll]; unfold tsegs; exact Sub.pick (Sub.pick (Sub.pick Sub.refl))) (fun w_ hp_ => TPop_spec bT bA N A cap m' at' l' n w_ (by rw [hll]; rwa [hll] at ho') hH' hN' (by omega) (by rw [hll]; exact own_cap ho') hp_.owns) ?_)
  rintro v14 _ rfl
  unfold tsegs
  dsimp only [List.cons_append, List.nil_append]
  refine f_stepP rfl rfl rfl (o_assign rfl) ?_
  refine f_done ?_
  refine f_tn (kh5 _ _ ?_)
  clear kh5
  refine f_ret ?_
  exact f_fin1 (tsegs bT bA N (.slice A n cap) m' (at'.set (eg l' n).id (-1))) Try.results84 rfl (by repeat (first | exact Sub.nil | refine Sub.pick ?_ | refine Sub.castO rfl ?_)) (cut_mk (by rw [hll]; rwa [hll] at ho') (by omega) hH' hN' (dn_full hG) (hp'.trans (sw_perm (by omega) (by omega))) (by rw [eg_drop hd', eg_sw (by omega) (by omega), if_pos rfl]))

end Go.Proofs.Ytlllpmafhnfihaa
