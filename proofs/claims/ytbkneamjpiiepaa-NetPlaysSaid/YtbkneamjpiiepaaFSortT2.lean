/- slices.SortStableFunc over timers: two sorted ranges put together, and the whole. -/
import Derived.Test.YtbkneamjpiiepaaFSortT
namespace Go.Proofs.Ytbkneamjpiiepaa
open Go Go.RowKit Fly
set_option linter.unusedVariables false
set_option linter.unusedSimpArgs false


theorem cut4 (l : List TT) {a m b : Nat} (h1 : a ≤ m) (h2 : m ≤ b) (h3 : b ≤ l.length) : ∃ P X Y Q, l = P ++ (X ++ (Y ++ Q)) ∧ P.length = a ∧ X.length = m - a ∧ Y.length = b - m := by
  obtain ⟨P, X, R1, hl, hP, hX, hR1⟩ := cut3 l h1 (by omega)
  obtain ⟨Z, Y, Q, hl1, hZ, hY, hQ⟩ := cut3 R1 (a := 0) (b := b - m) (by omega) (by omega)
  obtain rfl : Z = [] := List.eq_nil_of_length_eq_zero hZ
  exact ⟨P, X, Y, Q, by rw [hl, hl1]; rfl, hP, hX, by omega⟩
theorem not_t {φ : Prop} [Decidable φ] (h : (!decide φ) = true) : ¬ φ := by intro h'; rw [decide_eq_true h'] at h; cases h
theorem not_f {φ : Prop} [Decidable φ] (h : (!decide φ) = false) : φ := by
  rcases Decidable.em φ with h' | h'
  · exact h'
  · rw [decide_eq_false h'] at h; cases h

def StbΦ (N cap : Nat) (A : Option Addr) (l : List TT) (u : Value) (own : List Seg) : Prop := ∃ l' m', u = .tuple #[] ∧ own = [m'] ∧ l'.Perm l ∧ SI l' 0 N ∧ tiN N A cap l' m'

set_option maxRecDepth 100000 in
set_option maxHeartbeats 4000000 in
theorem symMerge_spec : ∀ (K N cap : Nat) (A : Option Addr) (l : List TT) (ms : Seg) (a m b : Nat) (w : World), b - a = K → N ≤ 1000000 → tiN N A cap l ms → KOk l → Mrg l a m b → Owns w [ms] →
    Meets Try.prog 64 [.slice A N cap, .int .i64 (a : Int), .int .i64 (m : Int), .int .i64 (b : Int), cmpT] w [ms] (SrtΦ N cap A l a b) := by
  intro K
  induction K using Nat.strongRecOn
  rename_i K ih
  intro N cap A l ms a m b w hK hN ho hk hM hw
  have hlen := ho.len
  have ham := hM.am
  have hmb := hM.mb
  have hbl := hM.bl
  obtain ⟨b', sp, rfl, rfl, hup⟩ := ho.upd (by omega)
  refine f_enter Try.func64 rfl Try.ntmps64 rfl hw ?_
  refine f_seq fun K1 kh1 => ?_
  refine f_seq fun K2 kh2 => ?_
  refine f_region ?_
  refine f_stepP rfl rfl rfl (o_move rfl) ?_
  refine f_stepP rfl rfl rfl (o_move rfl) ?_
  refine f_stepP rfl rfl rfl (o_sub rfl rfl _ (wrap_i64 (by omega))) ?_
  refine f_stepP rfl rfl rfl (o_eql rfl rfl) ?_
  refine f_done ?_
  refine f_tn (kh2 _ _ ?_)
  clear kh2
  refine f_cond rfl (fun c28 => ?_) (fun c28 => ?_)
  · skip
    obtain ⟨P, D, B, R, hl, hP, hD, hB, hDs, hBs, htg⟩ := hM.split
    obtain ⟨x, rfl⟩ : ∃ x, D = [x] := List.length_eq_one_iff.1 (by omega)
    have hex : el l a = x := by rw [hl, ← hP]; exact el_adj (S1 := []) rfl
    have heB : ∀ c, c < B.length → el l (m + c) = el B c := fun c hc => by
      rw [hl, ← List.append_assoc, show m + c = (P ++ [x]).length + c by simp; omega]; exact el_mid hc
    refine f_seq fun K3 kh3 => ?_
    refine f_region ?_
    refine f_stepP rfl rfl rfl (o_move rfl) ?_
    refine f_stepP rfl rfl rfl (o_assign rfl) ?_
    refine f_done ?_
    refine f_tn (kh3 _ _ ?_)
    clear kh3
    refine f_seq fun K4 kh4 => ?_
    refine f_region ?_
    refine f_stepP rfl rfl rfl (o_move rfl) ?_
    refine f_stepP rfl rfl rfl (o_assign rfl) ?_
    refine f_done ?_
    refine f_tn (kh4 _ _ ?_)
    clear kh4
    refine f_seq fun K5 kh5 => ?_
    refine f_block ?_
    refine f_loop (α := Nat × Nat) [0, 1, 4] (fun ⟨i, j⟩ => [(10, .int .i64 ((m + i : Nat) : Int)), (11, .int .i64 ((m + j : Nat) : Int))]) (fun ⟨i, j⟩ => [[(b', blk (l.flatMap tcs ++ sp) 41)]]) (fun ⟨i, j⟩ => Fnd x B i j) (fun ⟨i, j⟩ => j - i) (0, B.length) ?_ ?_ ?_ ?_
    · dsimp only; rw [show ((m + B.length : Nat) : Int) = (b : Int) by omega]; exact (by repeat (first | exact trivial | refine ⟨rfl, ?_⟩))
    · repeat (first | exact Sub.nil | refine Sub.pick ?_ | refine Sub.castO rfl ?_ | refine Sub.skip ?_)
    · exact Fnd.start
    · rintro ⟨i, j⟩ hF
      have hij := hF.ij
      have hjl := hF.jl
      refine f_seq fun K6 kh6 => ?_
      refine f_seq fun K7 kh7 => ?_
      refine f_region ?_
      refine f_stepP rfl rfl rfl (o_move rfl) ?_
      refine f_stepP rfl rfl rfl (o_move rfl) ?_
      refine f_stepP rfl rfl rfl (o_lss rfl rfl) ?_
      refine f_done ?_
      refine f_tn (kh7 _ _ ?_)
      clear kh7
      refine f_cond rfl (fun c33 => ?_) (fun c33 => ?_)
      · skip
        refine f_skip ?_
        refine f_tn (kh6 _ _ ?_)
        clear kh6
        refine f_block ?_
        refine f_seq fun K8 kh8 => ?_
        refine f_region ?_
        obtain ⟨c, hcd⟩ : ∃ c, m + c = (m + i + (m + j)) / 2 := ⟨(m + i + (m + j)) / 2 - m, by omega⟩
        have hcB : c < B.length := by omega
        have hec := heB c hcB
        have hkx := hk a (by omega)
        have hky := hk (m + c) (by omega)
        rw [hex] at hkx
        rw [hec] at hky
        refine f_stepP rfl rfl rfl (o_move rfl) ?_
        refine f_stepP rfl rfl rfl (o_move rfl) ?_
        refine f_stepP rfl rfl rfl (o_add rfl rfl _ (wrap_i64 (by omega))) ?_
        refine f_stepP rfl rfl rfl (o_conv Try.runUnderlying3 Try.runUnderlying85 rfl _ (wrap_u64 (by omega))) ?_
        refine f_stepP rfl rfl rfl (o_shr rfl rfl (by decide) ((m + c : Nat) : Int) (half_is (by omega) (by omega))) ?_
        refine f_stepP rfl rfl rfl (o_conv Try.runUnderlying85 Try.runUnderlying3 rfl _ (wrap_i64 (by omega))) ?_
        refine f_stepP rfl rfl rfl (o_assign rfl) ?_
        refine f_done ?_
        refine f_tn (kh8 _ _ ?_)
        clear kh8
        refine f_seq fun K9 kh9 => ?_
        refine f_regionH [[(b', blk (l.flatMap tcs ++ sp) 41)]] rfl ?_
        refine f_take 0 rfl (by decide +kernel) rfl rfl rfl (by repeat (first | exact Sub.nil | refine Sub.pick ?_ | refine Sub.castO rfl ?_ | refine Sub.skip ?_)) (o_move rfl) ?_
        refine f_take 1 rfl (by decide +kernel) rfl rfl rfl (by repeat (first | exact Sub.nil | refine Sub.pick ?_ | refine Sub.castO rfl ?_ | refine Sub.skip ?_)) (o_move rfl) ?_
        refine f_take 2 rfl (by decide +kernel) rfl rfl rfl (by repeat (first | exact Sub.nil | refine Sub.pick ?_ | refine Sub.castO rfl ?_ | refine Sub.skip ?_)) (o_move rfl) ?_
        refine f_take 3 rfl (by decide +kernel) rfl rfl rfl (by repeat (first | exact Sub.nil | refine Sub.pick ?_ | refine Sub.castO rfl ?_ | refine Sub.skip ?_)) (o_idx sl36 rfl rfl ((m + c) * 3) ⟨by omega, by omega, by first | omega | (simp; done) | (simp; omega)⟩) ?_
        refine f_take 4 rfl (by decide +kernel) rfl rfl rfl (by repeat (first | exact Sub.nil | refine Sub.pick ?_ | refine Sub.castO rfl ?_ | refine Sub.skip ?_)) (o_loadA (vs := tcs (el B c)) Try.isAgg41 Try.sizeOf41 rfl rfl (rdsEl (k := m + c) (by omega) hec)) ?_
        refine f_take 5 rfl (by decide +kernel) rfl rfl rfl (by repeat (first | exact Sub.nil | refine Sub.pick ?_ | refine Sub.castO rfl ?_ | refine Sub.skip ?_)) (o_move rfl) ?_
        refine f_take 6 rfl (by decide +kernel) rfl rfl rfl (by repeat (first | exact Sub.nil | refine Sub.pick ?_ | refine Sub.castO rfl ?_ | refine Sub.skip ?_)) (o_move rfl) ?_
        refine f_take 7 rfl (by decide +kernel) rfl rfl rfl (by repeat (first | exact Sub.nil | refine Sub.pick ?_ | refine Sub.castO rfl ?_ | refine Sub.skip ?_)) (o_idx sl36 rfl rfl (a * 3) ⟨by omega, by omega, by first | omega | (simp; done) | (simp; omega)⟩) ?_
        refine f_take 8 rfl (by decide +kernel) rfl rfl rfl (by repeat (first | exact Sub.nil | refine Sub.pick ?_ | refine Sub.castO rfl ?_ | refine Sub.skip ?_)) (o_loadA (vs := tcs x) Try.isAgg41 Try.sizeOf41 rfl rfl (rdsEl (k := a) (by omega) hex)) ?_
        refine f_only 9 rfl (by decide +kernel) rfl rfl rfl (o_callV [] _ Try.call35 rfl rfl Sub.refl (fun w_ hp_ => cmpT_spec (el B c) x w_ (by omega) (by omega)) ?_)
        rintro _ _ ⟨rfl, rfl⟩
        dsimp only [List.cons_append, List.nil_append]
        refine ⟨(by repeat (first | exact Sub.nil | refine Sub.pick ?_ | refine Sub.castO rfl ?_ | refine Sub.skip ?_)), ?_⟩
        refine f_take 10 rfl (by decide +kernel) rfl rfl rfl (by repeat (first | exact Sub.nil | refine Sub.pick ?_ | refine Sub.castO rfl ?_ | refine Sub.skip ?_)) (o_lss rfl rfl) ?_
        refine f_over (by decide +kernel) ?_
        refine f_tn (kh9 _ _ ?_)
        clear kh9
        refine f_cond rfl (fun c50 => ?_) (fun c50 => ?_)
        · skip
          have hlt : lx (el B c) x := lx_of_lt (by omega)
          refine f_region ?_
          refine f_stepP rfl rfl rfl (o_move rfl) ?_
          refine f_stepP rfl rfl rfl (o_add rfl rfl _ (show IntKind.i64.wrap (((m + c : Nat) : Int) + 1) = ((m + (c + 1) : Nat) : Int) from by rw [wrap_i64 (by omega)]; omega)) ?_
          refine f_stepP rfl rfl rfl (o_assign rfl) ?_
          refine f_done ?_
          refine f_bn ?_
          refine f_tn (f_again (c + 1, j) (by first | omega | (dsimp only; omega) | (simp; omega)) (hF.up hBs (by omega) (by omega) hlt) ?_ ?_ ?_)
          · exact (by repeat (first | exact trivial | refine ⟨rfl, ?_⟩))
          · exact (by repeat (first | exact trivial | refine ⟨rfl, ?_⟩))
          · repeat (first | exact Sub.nil | refine Sub.pick ?_ | refine Sub.castO rfl ?_ | refine Sub.skip ?_)
        · skip
          have hlt : lx x (el B c) := lx_of_nlt (by omega) (htg x (by simp) _ (by rw [el_eq hcB]; exact List.getElem_mem hcB))
          refine f_region ?_
          refine f_stepP rfl rfl rfl (o_move rfl) ?_
          refine f_stepP rfl rfl rfl (o_assign rfl) ?_
          refine f_done ?_
          refine f_bn ?_
          refine f_tn (f_again (i, c) (by first | omega | (dsimp only; omega) | (simp; omega)) (hF.down hBs (by omega) (by omega) hlt) ?_ ?_ ?_)
          · exact (by repeat (first | exact trivial | refine ⟨rfl, ?_⟩))
          · exact (by repeat (first | exact trivial | refine ⟨rfl, ?_⟩))
          · repeat (first | exact Sub.nil | refine Sub.pick ?_ | refine Sub.castO rfl ?_ | refine Sub.skip ?_)
      · skip
        refine f_exit ?_
        refine f_te ?_
        clear kh6
        refine f_te ?_
        refine f_be ?_
        refine f_tn (kh5 _ _ ?_)
        clear kh5
        refine f_seq fun K10 kh10 => ?_
        refine f_seq fun K11 kh11 => ?_
        refine f_region ?_
        refine f_stepP rfl rfl rfl (o_move rfl) ?_
        refine f_stepP rfl rfl rfl (o_assign rfl) ?_
        refine f_done ?_
        refine f_tn (kh11 _ _ ?_)
        clear kh11
        refine f_block ?_
        obtain rfl : i = j := by omega
        refine f_loop (α := Nat × List TT × Seg) [0, 10] (fun ⟨k, l2, m2⟩ => [(13, .int .i64 ((a + k : Nat) : Int))]) (fun ⟨k, l2, m2⟩ => [m2]) (fun ⟨k, l2, m2⟩ => k ≤ i ∧ l2 = P ++ (B.take k ++ x :: (B.drop k ++ R)) ∧ tiN N (some ⟨b', 0, none⟩) cap l2 m2) (fun ⟨k, l2, m2⟩ => i - k) (0, l, [(b', blk (l.flatMap tcs ++ sp) 41)]) ?_ ?_ ?_ ?_
        · exact (by repeat (first | exact trivial | refine ⟨rfl, ?_⟩))
        · repeat (first | exact Sub.nil | refine Sub.pick ?_ | refine Sub.castO rfl ?_ | refine Sub.skip ?_)
        · exact ⟨Nat.zero_le _, hl, ho⟩
        · rintro ⟨k, l2, m2⟩ ⟨hki, hl2, ho2⟩
          have hlen2 := ho2.len
          refine f_seq fun K12 kh12 => ?_
          refine f_seq fun K13 kh13 => ?_
          refine f_region ?_
          refine f_stepP rfl rfl rfl (o_move rfl) ?_
          refine f_stepP rfl rfl rfl (o_move rfl) ?_
          refine f_stepP rfl rfl rfl (o_sub rfl rfl _ (wrap_i64 (by omega))) ?_
          refine f_stepP rfl rfl rfl (o_lss rfl rfl) ?_
          refine f_done ?_
          refine f_tn (kh13 _ _ ?_)
          clear kh13
          refine f_cond rfl (fun c58 => ?_) (fun c58 => ?_)
          · skip
            refine f_skip ?_
            refine f_tn (kh12 _ _ ?_)
            clear kh12
            refine f_seq fun K14 kh14 => ?_
            refine f_block ?_
            have hki' : k < i := by omega
            have hkB : k < B.length := by omega
            obtain ⟨b2, sp2, e2, rfl, hup2⟩ := ho2.upd (by omega)
            cases e2
            have hl2' : l2 = P ++ (B.take k ++ x :: (B[k]'hkB) :: (B.drop (k + 1) ++ R)) := by rw [hl2, List.drop_eq_getElem_cons (show k < B.length by omega)]; simp only [List.cons_append]
            have htk : (B.take k).length = k := by simp; omega
            have hx1 : el l2 (a + k) = x := by rw [hl2]; exact el_adj (by omega)
            have hx2 : el l2 (a + k + 1) = B[k]'hkB := by rw [hl2', show ∀ (X Y Z : List TT) (q q' : TT), X ++ (Y ++ q :: q' :: Z) = X ++ ((Y ++ [q]) ++ q' :: Z) from fun X Y Z q q' => by simp]; exact el_adj (by simp <;> omega)
            refine f_regionH [] rfl ?_
            refine f_take 0 rfl (by decide +kernel) rfl rfl rfl (by repeat (first | exact Sub.nil | refine Sub.pick ?_ | refine Sub.castO rfl ?_ | refine Sub.skip ?_)) (o_move rfl) ?_
            refine f_take 1 rfl (by decide +kernel) rfl rfl rfl (by repeat (first | exact Sub.nil | refine Sub.pick ?_ | refine Sub.castO rfl ?_ | refine Sub.skip ?_)) (o_move rfl) ?_
            refine f_take 2 rfl (by decide +kernel) rfl rfl rfl (by repeat (first | exact Sub.nil | refine Sub.pick ?_ | refine Sub.castO rfl ?_ | refine Sub.skip ?_)) (o_move rfl) ?_
            refine f_take 3 rfl (by decide +kernel) rfl rfl rfl (by repeat (first | exact Sub.nil | refine Sub.pick ?_ | refine Sub.castO rfl ?_ | refine Sub.skip ?_)) (o_move rfl) ?_
            refine f_take 4 rfl (by decide +kernel) rfl rfl rfl (by repeat (first | exact Sub.nil | refine Sub.pick ?_ | refine Sub.castO rfl ?_ | refine Sub.skip ?_)) (o_add rfl rfl _ (wrap_i64 (by omega))) ?_
            refine f_take 5 rfl (by decide +kernel) rfl rfl rfl (by repeat (first | exact Sub.nil | refine Sub.pick ?_ | refine Sub.castO rfl ?_ | refine Sub.skip ?_)) (o_move rfl) ?_
            refine f_take 6 rfl (by decide +kernel) rfl rfl rfl (by repeat (first | exact Sub.nil | refine Sub.pick ?_ | refine Sub.castO rfl ?_ | refine Sub.skip ?_)) (o_move rfl) ?_
            refine f_take 7 rfl (by decide +kernel) rfl rfl rfl (by repeat (first | exact Sub.nil | refine Sub.pick ?_ | refine Sub.castO rfl ?_ | refine Sub.skip ?_)) (o_add rfl rfl _ (wrap_i64 (by omega))) ?_
            refine f_take 8 rfl (by decide +kernel) rfl rfl rfl (by repeat (first | exact Sub.nil | refine Sub.pick ?_ | refine Sub.castO rfl ?_ | refine Sub.skip ?_)) (o_idx sl36 rfl rfl ((a + k + 1) * 3) ⟨by omega, by omega, by first | omega | (simp; done) | (simp; omega)⟩) ?_
            refine f_take 10 rfl (by decide +kernel) rfl rfl rfl (by repeat (first | exact Sub.nil | refine Sub.pick ?_ | refine Sub.castO rfl ?_ | refine Sub.skip ?_)) (o_move rfl) ?_
            refine f_take 11 rfl (by decide +kernel) rfl rfl rfl (by repeat (first | exact Sub.nil | refine Sub.pick ?_ | refine Sub.castO rfl ?_ | refine Sub.skip ?_)) (o_move rfl) ?_
            refine f_take 12 rfl (by decide +kernel) rfl rfl rfl (by repeat (first | exact Sub.nil | refine Sub.pick ?_ | refine Sub.castO rfl ?_ | refine Sub.skip ?_)) (o_idx sl36 rfl rfl ((a + k) * 3) ⟨by omega, by omega, by first | omega | (simp; done) | (simp; omega)⟩) ?_
            refine f_two 9 13 rfl rfl (by decide +kernel) rfl rfl rfl rfl rfl rfl ?_ ?_
            · skip
              refine (o_loadA (vs := tcs (B[k]'hkB)) Try.isAgg41 Try.sizeOf41 rfl rfl (rdsEl (k := a + k + 1) (by omega) hx2)).does ⟨(by repeat (first | exact Sub.nil | refine Sub.pick ?_ | refine Sub.castO rfl ?_ | refine Sub.skip ?_)), ?_⟩
              refine f_only 13 rfl (by decide +kernel) rfl rfl rfl ((o_loadA (vs := tcs x) Try.isAgg41 Try.sizeOf41 rfl rfl (rdsEl (k := a + k) (by omega) hx1)).does ⟨(by repeat (first | exact Sub.nil | refine Sub.pick ?_ | refine Sub.castO rfl ?_ | refine Sub.skip ?_)), ?_⟩)
              refine f_take 14 rfl (by decide +kernel) rfl rfl rfl (by repeat (first | exact Sub.nil | refine Sub.pick ?_ | refine Sub.castO rfl ?_ | refine Sub.skip ?_)) (o_idx sl36 rfl rfl ((a + k) * 3) ⟨by omega, by omega, by first | omega | (simp; done) | (simp; omega)⟩) ?_
              refine f_only0 15 rfl (by decide +kernel) rfl rfl (o_storeA Try.sizeOf41 rfl rfl rfl rfl (st_room (by omega)) ((l2.set (a + k) (B[k]'hkB)).flatMap tcs ++ sp2) (setMany_flat tcs_len sp2 _ _ _ (by first | omega | (simp only [List.length_set]; omega))) ⟨(by repeat (first | exact Sub.nil | refine Sub.pick ?_ | refine Sub.castO rfl ?_ | refine Sub.skip ?_)), ?_⟩)
              refine f_take 16 rfl (by decide +kernel) rfl rfl rfl (by repeat (first | exact Sub.nil | refine Sub.pick ?_ | refine Sub.castO rfl ?_ | refine Sub.skip ?_)) (o_idx sl36 rfl rfl ((a + k + 1) * 3) ⟨by omega, by omega, by first | omega | (simp; done) | (simp; omega)⟩) ?_
              refine f_only0 17 rfl (by decide +kernel) rfl rfl (o_storeA Try.sizeOf41 rfl rfl rfl rfl (st_room (by rw [List.length_set]; omega)) (((l2.set (a + k) (B[k]'hkB)).set (a + k + 1) x).flatMap tcs ++ sp2) (setMany_flat tcs_len sp2 _ _ _ (by first | omega | (simp only [List.length_set]; omega))) ⟨(by repeat (first | exact Sub.nil | refine Sub.pick ?_ | refine Sub.castO rfl ?_ | refine Sub.skip ?_)), ?_⟩)
              refine f_over (by decide +kernel) ?_
              refine f_bn ?_
              refine f_tn (kh14 _ _ ?_)
              clear kh14
              refine f_region ?_
              refine f_stepP rfl rfl rfl (o_move rfl) ?_
              refine f_stepP rfl rfl rfl (o_add rfl rfl _ (show IntKind.i64.wrap (((a + k : Nat) : Int) + 1) = ((a + (k + 1) : Nat) : Int) from by rw [wrap_i64 (by omega)]; omega)) ?_
              refine f_stepP rfl rfl rfl (o_assign rfl) ?_
              refine f_done ?_
              refine f_tn (f_again (k + 1, (l2.set (a + k) (B[k]'hkB)).set (a + k + 1) x, [(b', blk (((l2.set (a + k) (B[k]'hkB)).set (a + k + 1) x).flatMap tcs ++ sp2) 41)]) (by first | omega | (dsimp only; omega) | (simp; omega)) ⟨by omega, by rw [hl2', set_adj2 (by omega), List.take_succ_eq_append_getElem (show k < B.length by omega)]; simp only [List.append_assoc, List.cons_append, List.nil_append], hup2 _ (by simp)⟩ ?_ ?_ ?_)
              · exact (by repeat (first | exact trivial | refine ⟨rfl, ?_⟩))
              · exact (by repeat (first | exact trivial | refine ⟨rfl, ?_⟩))
              · repeat (first | exact Sub.nil | refine Sub.pick ?_ | refine Sub.castO rfl ?_ | refine Sub.skip ?_)
            · skip
              refine (o_loadA (vs := tcs x) Try.isAgg41 Try.sizeOf41 rfl rfl (rdsEl (k := a + k) (by omega) hx1)).does ⟨(by repeat (first | exact Sub.nil | refine Sub.pick ?_ | refine Sub.castO rfl ?_ | refine Sub.skip ?_)), ?_⟩
              refine f_only 9 rfl (by decide +kernel) rfl rfl rfl ((o_loadA (vs := tcs (B[k]'hkB)) Try.isAgg41 Try.sizeOf41 rfl rfl (rdsEl (k := a + k + 1) (by omega) hx2)).does ⟨(by repeat (first | exact Sub.nil | refine Sub.pick ?_ | refine Sub.castO rfl ?_ | refine Sub.skip ?_)), ?_⟩)
              refine f_take 14 rfl (by decide +kernel) rfl rfl rfl (by repeat (first | exact Sub.nil | refine Sub.pick ?_ | refine Sub.castO rfl ?_ | refine Sub.skip ?_)) (o_idx sl36 rfl rfl ((a + k) * 3) ⟨by omega, by omega, by first | omega | (simp; done) | (simp; omega)⟩) ?_
              refine f_only0 15 rfl (by decide +kernel) rfl rfl (o_storeA Try.sizeOf41 rfl rfl rfl rfl (st_room (by omega)) ((l2.set (a + k) (B[k]'hkB)).flatMap tcs ++ sp2) (setMany_flat tcs_len sp2 _ _ _ (by first | omega | (simp only [List.length_set]; omega))) ⟨(by repeat (first | exact Sub.nil | refine Sub.pick ?_ | refine Sub.castO rfl ?_ | refine Sub.skip ?_)), ?_⟩)
              refine f_take 16 rfl (by decide +kernel) rfl rfl rfl (by repeat (first | exact Sub.nil | refine Sub.pick ?_ | refine Sub.castO rfl ?_ | refine Sub.skip ?_)) (o_idx sl36 rfl rfl ((a + k + 1) * 3) ⟨by omega, by omega, by first | omega | (simp; done) | (simp; omega)⟩) ?_
              refine f_only0 17 rfl (by decide +kernel) rfl rfl (o_storeA Try.sizeOf41 rfl rfl rfl rfl (st_room (by rw [List.length_set]; omega)) (((l2.set (a + k) (B[k]'hkB)).set (a + k + 1) x).flatMap tcs ++ sp2) (setMany_flat tcs_len sp2 _ _ _ (by first | omega | (simp only [List.length_set]; omega))) ⟨(by repeat (first | exact Sub.nil | refine Sub.pick ?_ | refine Sub.castO rfl ?_ | refine Sub.skip ?_)), ?_⟩)
              refine f_over (by decide +kernel) ?_
              refine f_bn ?_
              refine f_tn (kh14 _ _ ?_)
              clear kh14
              refine f_region ?_
              refine f_stepP rfl rfl rfl (o_move rfl) ?_
              refine f_stepP rfl rfl rfl (o_add rfl rfl _ (show IntKind.i64.wrap (((a + k : Nat) : Int) + 1) = ((a + (k + 1) : Nat) : Int) from by rw [wrap_i64 (by omega)]; omega)) ?_
              refine f_stepP rfl rfl rfl (o_assign rfl) ?_
              refine f_done ?_
              refine f_tn (f_again (k + 1, (l2.set (a + k) (B[k]'hkB)).set (a + k + 1) x, [(b', blk (((l2.set (a + k) (B[k]'hkB)).set (a + k + 1) x).flatMap tcs ++ sp2) 41)]) (by first | omega | (dsimp only; omega) | (simp; omega)) ⟨by omega, by rw [hl2', set_adj2 (by omega), List.take_succ_eq_append_getElem (show k < B.length by omega)]; simp only [List.append_assoc, List.cons_append, List.nil_append], hup2 _ (by simp)⟩ ?_ ?_ ?_)
              · exact (by repeat (first | exact trivial | refine ⟨rfl, ?_⟩))
              · exact (by repeat (first | exact trivial | refine ⟨rfl, ?_⟩))
              · repeat (first | exact Sub.nil | refine Sub.pick ?_ | refine Sub.castO rfl ?_ | refine Sub.skip ?_)
          · skip
            refine f_exit ?_
            refine f_te ?_
            clear kh12
            refine f_te ?_
            refine f_be ?_
            refine f_tn (kh10 _ _ ?_)
            clear kh10
            refine f_ret ?_
            refine f_tr ?_
            obtain rfl : k = i := by omega
            have hsr := Srt.of_split (P := P) (R := R) (A := x :: B) (put_perm x B k) (hF.put hBs)
            rw [show (B.take k ++ x :: B.drop k) ++ R = B.take k ++ x :: (B.drop k ++ R) by simp, ← hl2, show P ++ (x :: B ++ R) = P ++ ([x] ++ (B ++ R)) by simp, ← hl, hP, show a + (x :: B).length = b by simp; omega] at hsr
            exact f_fin0 [m2] Try.results64 (by repeat (first | exact Sub.nil | refine Sub.pick ?_ | refine Sub.castO rfl ?_)) ⟨l2, m2, rfl, rfl, hsr, ho2⟩
  · skip
    have hma : a + 1 < m := by omega
    refine f_skip ?_
    refine f_tn (kh1 _ _ ?_)
    clear kh1
    refine f_seq fun K15 kh15 => ?_
    refine f_seq fun K16 kh16 => ?_
    refine f_region ?_
    refine f_stepP rfl rfl rfl (o_move rfl) ?_
    refine f_stepP rfl rfl rfl (o_move rfl) ?_
    refine f_stepP rfl rfl rfl (o_sub rfl rfl _ (wrap_i64 (by omega))) ?_
    refine f_stepP rfl rfl rfl (o_eql rfl rfl) ?_
    refine f_done ?_
    refine f_tn (kh16 _ _ ?_)
    clear kh16
    refine f_cond rfl (fun c80 => ?_) (fun c80 => ?_)
    · skip
      obtain ⟨P, D, B, R, hl, hP, hD, hB, hDs, hBs, htg⟩ := hM.split
      obtain ⟨y, rfl⟩ : ∃ y, B = [y] := List.length_eq_one_iff.1 (by omega)
      have hey : el l m = y := by rw [hl]; exact el_adj (P := P) (S1 := D) (by omega)
      have heD : ∀ c, c < D.length → el l (a + c) = el D c := fun c hc => by rw [hl, ← hP]; exact el_mid hc
      refine f_seq fun K17 kh17 => ?_
      refine f_region ?_
      refine f_stepP rfl rfl rfl (o_move rfl) ?_
      refine f_stepP rfl rfl rfl (o_assign rfl) ?_
      refine f_done ?_
      refine f_tn (kh17 _ _ ?_)
      clear kh17
      refine f_seq fun K18 kh18 => ?_
      refine f_region ?_
      refine f_stepP rfl rfl rfl (o_move rfl) ?_
      refine f_stepP rfl rfl rfl (o_assign rfl) ?_
      refine f_done ?_
      refine f_tn (kh18 _ _ ?_)
      clear kh18
      refine f_seq fun K19 kh19 => ?_
      refine f_block ?_
      refine f_loop (α := Nat × Nat) [0, 2, 4] (fun ⟨i, j⟩ => [(14, .int .i64 ((a + i : Nat) : Int)), (15, .int .i64 ((a + j : Nat) : Int))]) (fun ⟨i, j⟩ => [[(b', blk (l.flatMap tcs ++ sp) 41)]]) (fun ⟨i, j⟩ => Fnd y D i j) (fun ⟨i, j⟩ => j - i) (0, D.length) ?_ ?_ ?_ ?_
      · dsimp only; rw [show ((a + D.length : Nat) : Int) = (m : Int) by omega]; exact (by repeat (first | exact trivial | refine ⟨rfl, ?_⟩))
      · repeat (first | exact Sub.nil | refine Sub.pick ?_ | refine Sub.castO rfl ?_ | refine Sub.skip ?_)
      · exact Fnd.start
      · rintro ⟨i, j⟩ hF
        have hij := hF.ij
        have hjl := hF.jl
        refine f_seq fun K20 kh20 => ?_
        refine f_seq fun K21 kh21 => ?_
        refine f_region ?_
        refine f_stepP rfl rfl rfl (o_move rfl) ?_
        refine f_stepP rfl rfl rfl (o_move rfl) ?_
        refine f_stepP rfl rfl rfl (o_lss rfl rfl) ?_
        refine f_done ?_
        refine f_tn (kh21 _ _ ?_)
        clear kh21
        refine f_cond rfl (fun c85 => ?_) (fun c85 => ?_)
        · skip
          refine f_skip ?_
          refine f_tn (kh20 _ _ ?_)
          clear kh20
          refine f_block ?_
          refine f_seq fun K22 kh22 => ?_
          refine f_region ?_
          obtain ⟨c, hcd⟩ : ∃ c, a + c = (a + i + (a + j)) / 2 := ⟨(a + i + (a + j)) / 2 - a, by omega⟩
          have hcD : c < D.length := by omega
          have hec := heD c hcD
          have hky := hk m (by omega)
          have hkx := hk (a + c) (by omega)
          rw [hey] at hky
          rw [hec] at hkx
          refine f_stepP rfl rfl rfl (o_move rfl) ?_
          refine f_stepP rfl rfl rfl (o_move rfl) ?_
          refine f_stepP rfl rfl rfl (o_add rfl rfl _ (wrap_i64 (by omega))) ?_
          refine f_stepP rfl rfl rfl (o_conv Try.runUnderlying3 Try.runUnderlying85 rfl _ (wrap_u64 (by omega))) ?_
          refine f_stepP rfl rfl rfl (o_shr rfl rfl (by decide) ((a + c : Nat) : Int) (half_is (by omega) (by omega))) ?_
          refine f_stepP rfl rfl rfl (o_conv Try.runUnderlying85 Try.runUnderlying3 rfl _ (wrap_i64 (by omega))) ?_
          refine f_stepP rfl rfl rfl (o_assign rfl) ?_
          refine f_done ?_
          refine f_tn (kh22 _ _ ?_)
          clear kh22
          refine f_seq fun K23 kh23 => ?_
          refine f_regionH [[(b', blk (l.flatMap tcs ++ sp) 41)]] rfl ?_
          refine f_take 0 rfl (by decide +kernel) rfl rfl rfl (by repeat (first | exact Sub.nil | refine Sub.pick ?_ | refine Sub.castO rfl ?_ | refine Sub.skip ?_)) (o_move rfl) ?_
          refine f_take 1 rfl (by decide +kernel) rfl rfl rfl (by repeat (first | exact Sub.nil | refine Sub.pick ?_ | refine Sub.castO rfl ?_ | refine Sub.skip ?_)) (o_move rfl) ?_
          refine f_take 2 rfl (by decide +kernel) rfl rfl rfl (by repeat (first | exact Sub.nil | refine Sub.pick ?_ | refine Sub.castO rfl ?_ | refine Sub.skip ?_)) (o_move rfl) ?_
          refine f_take 3 rfl (by decide +kernel) rfl rfl rfl (by repeat (first | exact Sub.nil | refine Sub.pick ?_ | refine Sub.castO rfl ?_ | refine Sub.skip ?_)) (o_idx sl36 rfl rfl (m * 3) ⟨by omega, by omega, by first | omega | (simp; done) | (simp; omega)⟩) ?_
          refine f_take 4 rfl (by decide +kernel) rfl rfl rfl (by repeat (first | exact Sub.nil | refine Sub.pick ?_ | refine Sub.castO rfl ?_ | refine Sub.skip ?_)) (o_loadA (vs := tcs y) Try.isAgg41 Try.sizeOf41 rfl rfl (rdsEl (k := m) (by omega) hey)) ?_
          refine f_take 5 rfl (by decide +kernel) rfl rfl rfl (by repeat (first | exact Sub.nil | refine Sub.pick ?_ | refine Sub.castO rfl ?_ | refine Sub.skip ?_)) (o_move rfl) ?_
          refine f_take 6 rfl (by decide +kernel) rfl rfl rfl (by repeat (first | exact Sub.nil | refine Sub.pick ?_ | refine Sub.castO rfl ?_ | refine Sub.skip ?_)) (o_move rfl) ?_
          refine f_take 7 rfl (by decide +kernel) rfl rfl rfl (by repeat (first | exact Sub.nil | refine Sub.pick ?_ | refine Sub.castO rfl ?_ | refine Sub.skip ?_)) (o_idx sl36 rfl rfl ((a + c) * 3) ⟨by omega, by omega, by first | omega | (simp; done) | (simp; omega)⟩) ?_
          refine f_take 8 rfl (by decide +kernel) rfl rfl rfl (by repeat (first | exact Sub.nil | refine Sub.pick ?_ | refine Sub.castO rfl ?_ | refine Sub.skip ?_)) (o_loadA (vs := tcs (el D c)) Try.isAgg41 Try.sizeOf41 rfl rfl (rdsEl (k := a + c) (by omega) hec)) ?_
          refine f_only 9 rfl (by decide +kernel) rfl rfl rfl (o_callV [] _ Try.call35 rfl rfl Sub.refl (fun w_ hp_ => cmpT_spec y (el D c) w_ (by omega) (by omega)) ?_)
          rintro _ _ ⟨rfl, rfl⟩
          dsimp only [List.cons_append, List.nil_append]
          refine ⟨(by repeat (first | exact Sub.nil | refine Sub.pick ?_ | refine Sub.castO rfl ?_ | refine Sub.skip ?_)), ?_⟩
          refine f_take 10 rfl (by decide +kernel) rfl rfl rfl (by repeat (first | exact Sub.nil | refine Sub.pick ?_ | refine Sub.castO rfl ?_ | refine Sub.skip ?_)) (o_lss rfl rfl) ?_
          refine f_take 11 rfl (by decide +kernel) rfl rfl rfl (by repeat (first | exact Sub.nil | refine Sub.pick ?_ | refine Sub.castO rfl ?_ | refine Sub.skip ?_)) (o_not rfl) ?_
          refine f_over (by decide +kernel) ?_
          refine f_tn (kh23 _ _ ?_)
          clear kh23
          refine f_condB rfl (fun c103 => ?_) (fun c103 => ?_)
          · skip
            have hnn := not_t c103
            have hlt : lx (el D c) y := lx_of_nlt (by omega) (htg _ (by rw [el_eq hcD]; exact List.getElem_mem hcD) y (by simp))
            refine f_region ?_
            refine f_stepP rfl rfl rfl (o_move rfl) ?_
            refine f_stepP rfl rfl rfl (o_add rfl rfl _ (show IntKind.i64.wrap (((a + c : Nat) : Int) + 1) = ((a + (c + 1) : Nat) : Int) from by rw [wrap_i64 (by omega)]; omega)) ?_
            refine f_stepP rfl rfl rfl (o_assign rfl) ?_
            refine f_done ?_
            refine f_bn ?_
            refine f_tn (f_again (c + 1, j) (by first | omega | (dsimp only; omega) | (simp; omega)) (hF.up hDs (by omega) (by omega) hlt) ?_ ?_ ?_)
            · exact (by repeat (first | exact trivial | refine ⟨rfl, ?_⟩))
            · exact (by repeat (first | exact trivial | refine ⟨rfl, ?_⟩))
            · repeat (first | exact Sub.nil | refine Sub.pick ?_ | refine Sub.castO rfl ?_ | refine Sub.skip ?_)
          · skip
            have hnn := not_f c103
            have hlt : lx y (el D c) := lx_of_lt (by omega)
            refine f_region ?_
            refine f_stepP rfl rfl rfl (o_move rfl) ?_
            refine f_stepP rfl rfl rfl (o_assign rfl) ?_
            refine f_done ?_
            refine f_bn ?_
            refine f_tn (f_again (i, c) (by first | omega | (dsimp only; omega) | (simp; omega)) (hF.down hDs (by omega) (by omega) hlt) ?_ ?_ ?_)
            · exact (by repeat (first | exact trivial | refine ⟨rfl, ?_⟩))
            · exact (by repeat (first | exact trivial | refine ⟨rfl, ?_⟩))
            · repeat (first | exact Sub.nil | refine Sub.pick ?_ | refine Sub.castO rfl ?_ | refine Sub.skip ?_)
        · skip
          refine f_exit ?_
          refine f_te ?_
          clear kh20
          refine f_te ?_
          refine f_be ?_
          refine f_tn (kh19 _ _ ?_)
          clear kh19
          refine f_seq fun K24 kh24 => ?_
          refine f_seq fun K25 kh25 => ?_
          refine f_region ?_
          refine f_stepP rfl rfl rfl (o_move rfl) ?_
          refine f_stepP rfl rfl rfl (o_assign rfl) ?_
          refine f_done ?_
          refine f_tn (kh25 _ _ ?_)
          clear kh25
          refine f_block ?_
          obtain rfl : i = j := by omega
          refine f_loop (α := Nat × List TT × Seg) [0, 14] (fun ⟨k, l2, m2⟩ => [(17, .int .i64 ((a + k : Nat) : Int))]) (fun ⟨k, l2, m2⟩ => [m2]) (fun ⟨k, l2, m2⟩ => i ≤ k ∧ k ≤ D.length ∧ l2 = P ++ (D.take k ++ y :: (D.drop k ++ R)) ∧ tiN N (some ⟨b', 0, none⟩) cap l2 m2) (fun ⟨k, l2, m2⟩ => k) (D.length, l, [(b', blk (l.flatMap tcs ++ sp) 41)]) ?_ ?_ ?_ ?_
          · dsimp only; rw [show ((a + D.length : Nat) : Int) = (m : Int) by omega]; exact (by repeat (first | exact trivial | refine ⟨rfl, ?_⟩))
          · repeat (first | exact Sub.nil | refine Sub.pick ?_ | refine Sub.castO rfl ?_ | refine Sub.skip ?_)
          · exact ⟨hjl, Nat.le_refl _, by rw [List.take_length, List.drop_length]; exact hl, ho⟩
          · rintro ⟨k, l2, m2⟩ ⟨hik, hkD, hl2, ho2⟩
            have hlen2 := ho2.len
            refine f_seq fun K26 kh26 => ?_
            refine f_seq fun K27 kh27 => ?_
            refine f_region ?_
            refine f_stepP rfl rfl rfl (o_move rfl) ?_
            refine f_stepP rfl rfl rfl (o_move rfl) ?_
            refine f_stepP rfl rfl rfl (o_gtr rfl rfl) ?_
            refine f_done ?_
            refine f_tn (kh27 _ _ ?_)
            clear kh27
            refine f_cond rfl (fun c110 => ?_) (fun c110 => ?_)
            · skip
              refine f_skip ?_
              refine f_tn (kh26 _ _ ?_)
              clear kh26
              refine f_seq fun K28 kh28 => ?_
              refine f_block ?_
              obtain ⟨r, rfl⟩ : ∃ r, k = r + 1 := ⟨k - 1, by omega⟩
              have hrD : r < D.length := by omega
              obtain ⟨b2, sp2, e2, rfl, hup2⟩ := ho2.upd (by omega)
              cases e2
              have hl2' : l2 = P ++ (D.take r ++ (D[r]'hrD) :: y :: (D.drop (r + 1) ++ R)) := by rw [hl2, List.take_succ_eq_append_getElem (show r < D.length by omega)]; simp only [List.append_assoc, List.cons_append, List.nil_append]
              have htk : (D.take r).length = r := by simp; omega
              have hx1 : el l2 (a + r) = D[r]'hrD := by rw [hl2']; exact el_adj (by omega)
              have hx2 : el l2 (a + r + 1) = y := by rw [hl2]; exact el_adj (by simp <;> omega)
              refine f_regionH [] rfl ?_
              refine f_take 0 rfl (by decide +kernel) rfl rfl rfl (by repeat (first | exact Sub.nil | refine Sub.pick ?_ | refine Sub.castO rfl ?_ | refine Sub.skip ?_)) (o_move rfl) ?_
              refine f_take 1 rfl (by decide +kernel) rfl rfl rfl (by repeat (first | exact Sub.nil | refine Sub.pick ?_ | refine Sub.castO rfl ?_ | refine Sub.skip ?_)) (o_move rfl) ?_
              refine f_take 2 rfl (by decide +kernel) rfl rfl rfl (by repeat (first | exact Sub.nil | refine Sub.pick ?_ | refine Sub.castO rfl ?_ | refine Sub.skip ?_)) (o_move rfl) ?_
              refine f_take 3 rfl (by decide +kernel) rfl rfl rfl (by repeat (first | exact Sub.nil | refine Sub.pick ?_ | refine Sub.castO rfl ?_ | refine Sub.skip ?_)) (o_move rfl) ?_
              refine f_take 4 rfl (by decide +kernel) rfl rfl rfl (by repeat (first | exact Sub.nil | refine Sub.pick ?_ | refine Sub.castO rfl ?_ | refine Sub.skip ?_)) (o_sub rfl rfl _ (wrap_i64 (by omega))) ?_
              refine f_take 5 rfl (by decide +kernel) rfl rfl rfl (by repeat (first | exact Sub.nil | refine Sub.pick ?_ | refine Sub.castO rfl ?_ | refine Sub.skip ?_)) (o_move rfl) ?_
              refine f_take 6 rfl (by decide +kernel) rfl rfl rfl (by repeat (first | exact Sub.nil | refine Sub.pick ?_ | refine Sub.castO rfl ?_ | refine Sub.skip ?_)) (o_move rfl) ?_
              refine f_take 7 rfl (by decide +kernel) rfl rfl rfl (by repeat (first | exact Sub.nil | refine Sub.pick ?_ | refine Sub.castO rfl ?_ | refine Sub.skip ?_)) (o_sub rfl rfl _ (wrap_i64 (by omega))) ?_
              refine f_take 8 rfl (by decide +kernel) rfl rfl rfl (by repeat (first | exact Sub.nil | refine Sub.pick ?_ | refine Sub.castO rfl ?_ | refine Sub.skip ?_)) (o_idx sl36 rfl rfl ((a + r) * 3) ⟨by omega, by omega, by first | omega | (simp; done) | (simp; omega)⟩) ?_
              refine f_take 10 rfl (by decide +kernel) rfl rfl rfl (by repeat (first | exact Sub.nil | refine Sub.pick ?_ | refine Sub.castO rfl ?_ | refine Sub.skip ?_)) (o_move rfl) ?_
              refine f_take 11 rfl (by decide +kernel) rfl rfl rfl (by repeat (first | exact Sub.nil | refine Sub.pick ?_ | refine Sub.castO rfl ?_ | refine Sub.skip ?_)) (o_move rfl) ?_
              refine f_take 12 rfl (by decide +kernel) rfl rfl rfl (by repeat (first | exact Sub.nil | refine Sub.pick ?_ | refine Sub.castO rfl ?_ | refine Sub.skip ?_)) (o_idx sl36 rfl rfl ((a + r + 1) * 3) ⟨by omega, by omega, by first | omega | (simp; done) | (simp; omega)⟩) ?_
              refine f_two 9 13 rfl rfl (by decide +kernel) rfl rfl rfl rfl rfl rfl ?_ ?_
              · skip
                refine (o_loadA (vs := tcs (D[r]'hrD)) Try.isAgg41 Try.sizeOf41 rfl rfl (rdsEl (k := a + r) (by omega) hx1)).does ⟨(by repeat (first | exact Sub.nil | refine Sub.pick ?_ | refine Sub.castO rfl ?_ | refine Sub.skip ?_)), ?_⟩
                refine f_only 13 rfl (by decide +kernel) rfl rfl rfl ((o_loadA (vs := tcs y) Try.isAgg41 Try.sizeOf41 rfl rfl (rdsEl (k := a + r + 1) (by omega) hx2)).does ⟨(by repeat (first | exact Sub.nil | refine Sub.pick ?_ | refine Sub.castO rfl ?_ | refine Sub.skip ?_)), ?_⟩)
                refine f_take 14 rfl (by decide +kernel) rfl rfl rfl (by repeat (first | exact Sub.nil | refine Sub.pick ?_ | refine Sub.castO rfl ?_ | refine Sub.skip ?_)) (o_idx sl36 rfl rfl ((a + r + 1) * 3) ⟨by omega, by omega, by first | omega | (simp; done) | (simp; omega)⟩) ?_
                refine f_only0 15 rfl (by decide +kernel) rfl rfl (o_storeA Try.sizeOf41 rfl rfl rfl rfl (st_room (by omega)) ((l2.set (a + r + 1) (D[r]'hrD)).flatMap tcs ++ sp2) (setMany_flat tcs_len sp2 _ _ _ (by first | omega | (simp only [List.length_set]; omega))) ⟨(by repeat (first | exact Sub.nil | refine Sub.pick ?_ | refine Sub.castO rfl ?_ | refine Sub.skip ?_)), ?_⟩)
                refine f_take 16 rfl (by decide +kernel) rfl rfl rfl (by repeat (first | exact Sub.nil | refine Sub.pick ?_ | refine Sub.castO rfl ?_ | refine Sub.skip ?_)) (o_idx sl36 rfl rfl ((a + r) * 3) ⟨by omega, by omega, by first | omega | (simp; done) | (simp; omega)⟩) ?_
                refine f_only0 17 rfl (by decide +kernel) rfl rfl (o_storeA Try.sizeOf41 rfl rfl rfl rfl (st_room (by rw [List.length_set]; omega)) (((l2.set (a + r + 1) (D[r]'hrD)).set (a + r) y).flatMap tcs ++ sp2) (setMany_flat tcs_len sp2 _ _ _ (by first | omega | (simp only [List.length_set]; omega))) ⟨(by repeat (first | exact Sub.nil | refine Sub.pick ?_ | refine Sub.castO rfl ?_ | refine Sub.skip ?_)), ?_⟩)
                refine f_over (by decide +kernel) ?_
                refine f_bn ?_
                refine f_tn (kh28 _ _ ?_)
                clear kh28
                refine f_region ?_
                refine f_stepP rfl rfl rfl (o_move rfl) ?_
                refine f_stepP rfl rfl rfl (o_sub rfl rfl _ (show IntKind.i64.wrap (((a + (r + 1) : Nat) : Int) - 1) = ((a + r : Nat) : Int) from by rw [wrap_i64 (by omega)]; omega)) ?_
                refine f_stepP rfl rfl rfl (o_assign rfl) ?_
                refine f_done ?_
                refine f_tn (f_again (r, (l2.set (a + r + 1) (D[r]'hrD)).set (a + r) y, [(b', blk (((l2.set (a + r + 1) (D[r]'hrD)).set (a + r) y).flatMap tcs ++ sp2) 41)]) (by first | omega | (dsimp only; omega) | (simp; omega)) ⟨by omega, by omega, by rw [hl2', set_adj (by omega), List.drop_eq_getElem_cons (show r < D.length by omega)]; simp only [List.cons_append], hup2 _ (by simp)⟩ ?_ ?_ ?_)
                · exact (by repeat (first | exact trivial | refine ⟨rfl, ?_⟩))
                · exact (by repeat (first | exact trivial | refine ⟨rfl, ?_⟩))
                · repeat (first | exact Sub.nil | refine Sub.pick ?_ | refine Sub.castO rfl ?_ | refine Sub.skip ?_)
              · skip
                refine (o_loadA (vs := tcs y) Try.isAgg41 Try.sizeOf41 rfl rfl (rdsEl (k := a + r + 1) (by omega) hx2)).does ⟨(by repeat (first | exact Sub.nil | refine Sub.pick ?_ | refine Sub.castO rfl ?_ | refine Sub.skip ?_)), ?_⟩
                refine f_only 9 rfl (by decide +kernel) rfl rfl rfl ((o_loadA (vs := tcs (D[r]'hrD)) Try.isAgg41 Try.sizeOf41 rfl rfl (rdsEl (k := a + r) (by omega) hx1)).does ⟨(by repeat (first | exact Sub.nil | refine Sub.pick ?_ | refine Sub.castO rfl ?_ | refine Sub.skip ?_)), ?_⟩)
                refine f_take 14 rfl (by decide +kernel) rfl rfl rfl (by repeat (first | exact Sub.nil | refine Sub.pick ?_ | refine Sub.castO rfl ?_ | refine Sub.skip ?_)) (o_idx sl36 rfl rfl ((a + r + 1) * 3) ⟨by omega, by omega, by first | omega | (simp; done) | (simp; omega)⟩) ?_
                refine f_only0 15 rfl (by decide +kernel) rfl rfl (o_storeA Try.sizeOf41 rfl rfl rfl rfl (st_room (by omega)) ((l2.set (a + r + 1) (D[r]'hrD)).flatMap tcs ++ sp2) (setMany_flat tcs_len sp2 _ _ _ (by first | omega | (simp only [List.length_set]; omega))) ⟨(by repeat (first | exact Sub.nil | refine Sub.pick ?_ | refine Sub.castO rfl ?_ | refine Sub.skip ?_)), ?_⟩)
                refine f_take 16 rfl (by decide +kernel) rfl rfl rfl (by repeat (first | exact Sub.nil | refine Sub.pick ?_ | refine Sub.castO rfl ?_ | refine Sub.skip ?_)) (o_idx sl36 rfl rfl ((a + r) * 3) ⟨by omega, by omega, by first | omega | (simp; done) | (simp; omega)⟩) ?_
                refine f_only0 17 rfl (by decide +kernel) rfl rfl (o_storeA Try.sizeOf41 rfl rfl rfl rfl (st_room (by rw [List.length_set]; omega)) (((l2.set (a + r + 1) (D[r]'hrD)).set (a + r) y).flatMap tcs ++ sp2) (setMany_flat tcs_len sp2 _ _ _ (by first | omega | (simp only [List.length_set]; omega))) ⟨(by repeat (first | exact Sub.nil | refine Sub.pick ?_ | refine Sub.castO rfl ?_ | refine Sub.skip ?_)), ?_⟩)
                refine f_over (by decide +kernel) ?_
                refine f_bn ?_
                refine f_tn (kh28 _ _ ?_)
                clear kh28
                refine f_region ?_
                refine f_stepP rfl rfl rfl (o_move rfl) ?_
                refine f_stepP rfl rfl rfl (o_sub rfl rfl _ (show IntKind.i64.wrap (((a + (r + 1) : Nat) : Int) - 1) = ((a + r : Nat) : Int) from by rw [wrap_i64 (by omega)]; omega)) ?_
                refine f_stepP rfl rfl rfl (o_assign rfl) ?_
                refine f_done ?_
                refine f_tn (f_again (r, (l2.set (a + r + 1) (D[r]'hrD)).set (a + r) y, [(b', blk (((l2.set (a + r + 1) (D[r]'hrD)).set (a + r) y).flatMap tcs ++ sp2) 41)]) (by first | omega | (dsimp only; omega) | (simp; omega)) ⟨by omega, by omega, by rw [hl2', set_adj (by omega), List.drop_eq_getElem_cons (show r < D.length by omega)]; simp only [List.cons_append], hup2 _ (by simp)⟩ ?_ ?_ ?_)
                · exact (by repeat (first | exact trivial | refine ⟨rfl, ?_⟩))
                · exact (by repeat (first | exact trivial | refine ⟨rfl, ?_⟩))
                · repeat (first | exact Sub.nil | refine Sub.pick ?_ | refine Sub.castO rfl ?_ | refine Sub.skip ?_)
            · skip
              refine f_exit ?_
              refine f_te ?_
              clear kh26
              refine f_te ?_
              refine f_be ?_
              refine f_tn (kh24 _ _ ?_)
              clear kh24
              refine f_ret ?_
              refine f_tr ?_
              obtain rfl : k = i := by omega
              have hsr := Srt.of_split (P := P) (R := R) (A := D ++ [y]) (put_perm' y D k) (hF.put hDs)
              rw [show (D.take k ++ y :: D.drop k) ++ R = D.take k ++ y :: (D.drop k ++ R) by simp, ← hl2, show P ++ ((D ++ [y]) ++ R) = P ++ (D ++ ([y] ++ R)) by simp, ← hl, hP, show a + (D ++ [y]).length = b by simp; omega] at hsr
              exact f_fin0 [m2] Try.results64 (by repeat (first | exact Sub.nil | refine Sub.pick ?_ | refine Sub.castO rfl ?_)) ⟨l2, m2, rfl, rfl, hsr, ho2⟩
    · skip
      have hbm : m + 1 < b := by omega
      refine f_skip ?_
      refine f_tn (kh15 _ _ ?_)
      clear kh15
      refine f_seq fun K29 kh29 => ?_
      refine f_region ?_
      obtain ⟨mid, hmd⟩ : ∃ mid, mid = (a + b) / 2 := ⟨_, rfl⟩
      refine f_stepP rfl rfl rfl (o_move rfl) ?_
      refine f_stepP rfl rfl rfl (o_move rfl) ?_
      refine f_stepP rfl rfl rfl (o_add rfl rfl _ (wrap_i64 (by omega))) ?_
      refine f_stepP rfl rfl rfl (o_conv Try.runUnderlying3 Try.runUnderlying85 rfl _ (wrap_u64 (by omega))) ?_
      refine f_stepP rfl rfl rfl (o_shr rfl rfl (by decide) ((mid : Nat) : Int) (half_is (by omega) (by omega))) ?_
      refine f_stepP rfl rfl rfl (o_conv Try.runUnderlying85 Try.runUnderlying3 rfl _ (wrap_i64 (by omega))) ?_
      refine f_stepP rfl rfl rfl (o_assign rfl) ?_
      refine f_done ?_
      refine f_tn (kh29 _ _ ?_)
      clear kh29
      refine f_seq fun K30 kh30 => ?_
      refine f_region ?_
      refine f_stepP rfl rfl rfl (o_move rfl) ?_
      refine f_stepP rfl rfl rfl (o_move rfl) ?_
      refine f_stepP rfl rfl rfl (o_add rfl rfl _ (wrap_i64 (by omega))) ?_
      refine f_stepP rfl rfl rfl (o_assign rfl) ?_
      refine f_done ?_
      refine f_tn (kh30 _ _ ?_)
      clear kh30
      refine f_seq fun K31 kh31 => ?_
      refine f_region ?_
      refine f_stepP rfl rfl rfl (o_assign rfl) ?_
      refine f_stepP rfl rfl rfl (o_assign rfl) ?_
      refine f_done ?_
      refine f_tn (kh31 _ _ ?_)
      clear kh31
      refine f_meet (α := Nat × Nat) [0, 1, 2, 3, 4, 18, 19] (fun ⟨s0, r0⟩ => [(20, .int .i64 (s0 : Int)), (21, .int .i64 (r0 : Int))]) (fun ⟨s0, r0⟩ => [[(b', blk (l.flatMap tcs ++ sp) 41)]]) (fun ⟨s0, r0⟩ => ((mid < m ∧ s0 = mid + m - b ∧ r0 = mid ∧ b ≤ mid + m) ∨ (m ≤ mid ∧ s0 = a ∧ r0 = m)) ∧ a ≤ s0 ∧ s0 ≤ r0) ?_ ?_
      · intro K32 kh32
        refine f_seq fun K33 kh33 => ?_
        refine f_region ?_
        refine f_stepP rfl rfl rfl (o_move rfl) ?_
        refine f_stepP rfl rfl rfl (o_move rfl) ?_
        refine f_stepP rfl rfl rfl (o_gtr rfl rfl) ?_
        refine f_done ?_
        refine f_tn (kh33 _ _ ?_)
        clear kh33
        refine f_cond rfl (fun c140 => ?_) (fun c140 => ?_)
        · skip
          refine f_seq fun K34 kh34 => ?_
          refine f_region ?_
          refine f_stepP rfl rfl rfl (o_move rfl) ?_
          refine f_stepP rfl rfl rfl (o_move rfl) ?_
          refine f_stepP rfl rfl rfl (o_sub rfl rfl _ (show IntKind.i64.wrap ((mid : Int) + (m : Int) - (b : Int)) = ((mid + m - b : Nat) : Int) from by rw [wrap_i64 (by omega)]; omega)) ?_
          refine f_stepP rfl rfl rfl (o_assign rfl) ?_
          refine f_done ?_
          refine f_tn (kh34 _ _ ?_)
          clear kh34
          refine f_region ?_
          refine f_stepP rfl rfl rfl (o_move rfl) ?_
          refine f_stepP rfl rfl rfl (o_assign rfl) ?_
          refine f_done ?_
          refine f_tn (kh32 _ _ (mid + m - b, mid) ⟨.inl ⟨by omega, rfl, rfl, by omega⟩, by omega, by omega⟩ ?_ ?_ ?_)
          · exact (by repeat (first | exact trivial | refine ⟨rfl, ?_⟩))
          · exact (by repeat (first | exact trivial | refine ⟨rfl, ?_⟩))
          · repeat (first | exact Sub.nil | refine Sub.pick ?_ | refine Sub.castO rfl ?_ | refine Sub.skip ?_)
        · skip
          refine f_seq fun K35 kh35 => ?_
          refine f_region ?_
          refine f_stepP rfl rfl rfl (o_move rfl) ?_
          refine f_stepP rfl rfl rfl (o_assign rfl) ?_
          refine f_done ?_
          refine f_tn (kh35 _ _ ?_)
          clear kh35
          refine f_region ?_
          refine f_stepP rfl rfl rfl (o_move rfl) ?_
          refine f_stepP rfl rfl rfl (o_assign rfl) ?_
          refine f_done ?_
          refine f_tn (kh32 _ _ (a, m) ⟨.inr ⟨by omega, rfl, rfl⟩, by omega, by omega⟩ ?_ ?_ ?_)
          · exact (by repeat (first | exact trivial | refine ⟨rfl, ?_⟩))
          · exact (by repeat (first | exact trivial | refine ⟨rfl, ?_⟩))
          · repeat (first | exact Sub.nil | refine Sub.pick ?_ | refine Sub.castO rfl ?_ | refine Sub.skip ?_)
      · rintro ⟨s0, r0⟩ ⟨hc, has0, hsr0⟩
        have hr0m : r0 ≤ m ∧ r0 ≤ mid := by rcases hc with hc | hc <;> omega
        have hpp : ∀ c, s0 ≤ c → c < r0 → m ≤ mid + m - 1 - c ∧ mid + m - 1 - c < b ∧ c ≤ mid + m - 1 := fun c h1 h2 => by rcases hc with hc | hc <;> omega
        refine f_seq fun K36 kh36 => ?_
        refine f_region ?_
        refine f_stepP rfl rfl rfl (o_move rfl) ?_
        refine f_stepP rfl rfl rfl (o_sub rfl rfl _ (wrap_i64 (by omega))) ?_
        refine f_stepP rfl rfl rfl (o_assign rfl) ?_
        refine f_done ?_
        refine f_tn (kh36 _ _ ?_)
        clear kh36
        refine f_seq fun K37 kh37 => ?_
        refine f_block ?_
        refine f_loop (α := Nat × Nat) [0, 1, 2, 3, 4, 18, 19, 22] (fun ⟨s, r⟩ => [(20, .int .i64 (s : Int)), (21, .int .i64 (r : Int))]) (fun ⟨s, r⟩ => [[(b', blk (l.flatMap tcs ++ sp) 41)]]) (fun ⟨s, r⟩ => Half l s0 r0 (mid + m - 1) s r) (fun ⟨s, r⟩ => r - s) (s0, r0) ?_ ?_ ?_ ?_
        · exact (by repeat (first | exact trivial | refine ⟨rfl, ?_⟩))
        · repeat (first | exact Sub.nil | refine Sub.pick ?_ | refine Sub.castO rfl ?_ | refine Sub.skip ?_)
        · exact Half.start hsr0
        · rintro ⟨s, r⟩ hH
          have hHl := hH.lo
          have hHm := hH.mid
          have hHh := hH.hi
          refine f_seq fun K38 kh38 => ?_
          refine f_seq fun K39 kh39 => ?_
          refine f_region ?_
          refine f_stepP rfl rfl rfl (o_move rfl) ?_
          refine f_stepP rfl rfl rfl (o_move rfl) ?_
          refine f_stepP rfl rfl rfl (o_lss rfl rfl) ?_
          refine f_done ?_
          refine f_tn (kh39 _ _ ?_)
          clear kh39
          refine f_cond rfl (fun c151 => ?_) (fun c151 => ?_)
          · skip
            refine f_skip ?_
            refine f_tn (kh38 _ _ ?_)
            clear kh38
            refine f_block ?_
            refine f_seq fun K40 kh40 => ?_
            refine f_region ?_
            obtain ⟨c, hcd⟩ : ∃ c, c = (s + r) / 2 := ⟨_, rfl⟩
            have hpc := hpp c (by omega) (by omega)
            have hkx := hk (mid + m - 1 - c) (by omega)
            have hky := hk c (by omega)
            refine f_stepP rfl rfl rfl (o_move rfl) ?_
            refine f_stepP rfl rfl rfl (o_move rfl) ?_
            refine f_stepP rfl rfl rfl (o_add rfl rfl _ (wrap_i64 (by omega))) ?_
            refine f_stepP rfl rfl rfl (o_conv Try.runUnderlying3 Try.runUnderlying85 rfl _ (wrap_u64 (by omega))) ?_
            refine f_stepP rfl rfl rfl (o_shr rfl rfl (by decide) ((c : Nat) : Int) (half_is (by omega) (by omega))) ?_
            refine f_stepP rfl rfl rfl (o_conv Try.runUnderlying85 Try.runUnderlying3 rfl _ (wrap_i64 (by omega))) ?_
            refine f_stepP rfl rfl rfl (o_assign rfl) ?_
            refine f_done ?_
            refine f_tn (kh40 _ _ ?_)
            clear kh40
            refine f_seq fun K41 kh41 => ?_
            refine f_regionH [[(b', blk (l.flatMap tcs ++ sp) 41)]] rfl ?_
            refine f_take 0 rfl (by decide +kernel) rfl rfl rfl (by repeat (first | exact Sub.nil | refine Sub.pick ?_ | refine Sub.castO rfl ?_ | refine Sub.skip ?_)) (o_move rfl) ?_
            refine f_take 1 rfl (by decide +kernel) rfl rfl rfl (by repeat (first | exact Sub.nil | refine Sub.pick ?_ | refine Sub.castO rfl ?_ | refine Sub.skip ?_)) (o_move rfl) ?_
            refine f_take 2 rfl (by decide +kernel) rfl rfl rfl (by repeat (first | exact Sub.nil | refine Sub.pick ?_ | refine Sub.castO rfl ?_ | refine Sub.skip ?_)) (o_move rfl) ?_
            refine f_take 3 rfl (by decide +kernel) rfl rfl rfl (by repeat (first | exact Sub.nil | refine Sub.pick ?_ | refine Sub.castO rfl ?_ | refine Sub.skip ?_)) (o_move rfl) ?_
            refine f_take 4 rfl (by decide +kernel) rfl rfl rfl (by repeat (first | exact Sub.nil | refine Sub.pick ?_ | refine Sub.castO rfl ?_ | refine Sub.skip ?_)) (o_sub rfl rfl _ (wrap_i64 (by omega))) ?_
            refine f_take 5 rfl (by decide +kernel) rfl rfl rfl (by repeat (first | exact Sub.nil | refine Sub.pick ?_ | refine Sub.castO rfl ?_ | refine Sub.skip ?_)) (o_idx sl36 rfl rfl ((mid + m - 1 - c) * 3) ⟨by omega, by omega, by first | omega | (simp; done) | (simp; omega)⟩) ?_
            refine f_take 6 rfl (by decide +kernel) rfl rfl rfl (by repeat (first | exact Sub.nil | refine Sub.pick ?_ | refine Sub.castO rfl ?_ | refine Sub.skip ?_)) (o_loadA (vs := tcs (el l (mid + m - 1 - c))) Try.isAgg41 Try.sizeOf41 rfl rfl (rdsEl (k := mid + m - 1 - c) (by omega) rfl)) ?_
            refine f_take 7 rfl (by decide +kernel) rfl rfl rfl (by repeat (first | exact Sub.nil | refine Sub.pick ?_ | refine Sub.castO rfl ?_ | refine Sub.skip ?_)) (o_move rfl) ?_
            refine f_take 8 rfl (by decide +kernel) rfl rfl rfl (by repeat (first | exact Sub.nil | refine Sub.pick ?_ | refine Sub.castO rfl ?_ | refine Sub.skip ?_)) (o_move rfl) ?_
            refine f_take 9 rfl (by decide +kernel) rfl rfl rfl (by repeat (first | exact Sub.nil | refine Sub.pick ?_ | refine Sub.castO rfl ?_ | refine Sub.skip ?_)) (o_idx sl36 rfl rfl (c * 3) ⟨by omega, by omega, by first | omega | (simp; done) | (simp; omega)⟩) ?_
            refine f_take 10 rfl (by decide +kernel) rfl rfl rfl (by repeat (first | exact Sub.nil | refine Sub.pick ?_ | refine Sub.castO rfl ?_ | refine Sub.skip ?_)) (o_loadA (vs := tcs (el l c)) Try.isAgg41 Try.sizeOf41 rfl rfl (rdsEl (k := c) (by omega) rfl)) ?_
            refine f_only 11 rfl (by decide +kernel) rfl rfl rfl (o_callV [] _ Try.call35 rfl rfl Sub.refl (fun w_ hp_ => cmpT_spec (el l (mid + m - 1 - c)) (el l c) w_ (by omega) (by omega)) ?_)
            rintro _ _ ⟨rfl, rfl⟩
            dsimp only [List.cons_append, List.nil_append]
            refine ⟨(by repeat (first | exact Sub.nil | refine Sub.pick ?_ | refine Sub.castO rfl ?_ | refine Sub.skip ?_)), ?_⟩
            refine f_take 12 rfl (by decide +kernel) rfl rfl rfl (by repeat (first | exact Sub.nil | refine Sub.pick ?_ | refine Sub.castO rfl ?_ | refine Sub.skip ?_)) (o_lss rfl rfl) ?_
            refine f_take 13 rfl (by decide +kernel) rfl rfl rfl (by repeat (first | exact Sub.nil | refine Sub.pick ?_ | refine Sub.castO rfl ?_ | refine Sub.skip ?_)) (o_not rfl) ?_
            refine f_over (by decide +kernel) ?_
            refine f_tn (kh41 _ _ ?_)
            clear kh41
            refine f_condB rfl (fun c171 => ?_) (fun c171 => ?_)
            · skip
              have hnn := not_t c171
              have hlt : lx (el l c) (el l (mid + m - 1 - c)) := lx_of_nlt (by omega) (hM.tag c (mid + m - 1 - c) (by omega) (by omega) (by omega) (by omega))
              refine f_region ?_
              refine f_stepP rfl rfl rfl (o_move rfl) ?_
              refine f_stepP rfl rfl rfl (o_add rfl rfl _ (wrap_i64 (by omega))) ?_
              refine f_stepP rfl rfl rfl (o_assign rfl) ?_
              refine f_done ?_
              refine f_bn ?_
              refine f_tn (f_again (c + 1, r) (by first | omega | (dsimp only; omega) | (simp; omega)) (hH.up hM (by omega) (by omega) has0 (by omega) hpp hlt) ?_ ?_ ?_)
              · exact (by repeat (first | exact trivial | refine ⟨rfl, ?_⟩))
              · exact (by repeat (first | exact trivial | refine ⟨rfl, ?_⟩))
              · repeat (first | exact Sub.nil | refine Sub.pick ?_ | refine Sub.castO rfl ?_ | refine Sub.skip ?_)
            · skip
              have hnn := not_f c171
              have hlt : lx (el l (mid + m - 1 - c)) (el l c) := lx_of_lt (by omega)
              refine f_region ?_
              refine f_stepP rfl rfl rfl (o_move rfl) ?_
              refine f_stepP rfl rfl rfl (o_assign rfl) ?_
              refine f_done ?_
              refine f_bn ?_
              refine f_tn (f_again (s, c) (by first | omega | (dsimp only; omega) | (simp; omega)) (hH.down hM (by omega) (by omega) has0 (by omega) hpp hlt) ?_ ?_ ?_)
              · exact (by repeat (first | exact trivial | refine ⟨rfl, ?_⟩))
              · exact (by repeat (first | exact trivial | refine ⟨rfl, ?_⟩))
              · repeat (first | exact Sub.nil | refine Sub.pick ?_ | refine Sub.castO rfl ?_ | refine Sub.skip ?_)
          · skip
            refine f_exit ?_
            refine f_te ?_
            clear kh38
            refine f_te ?_
            refine f_be ?_
            refine f_tn (kh37 _ _ ?_)
            clear kh37
            refine f_seq fun K42 kh42 => ?_
            obtain rfl : s = r := by omega
            have hH' : Half l s0 r0 (mid + m - 1) s s := hH
            refine f_region ?_
            refine f_stepP rfl rfl rfl (o_move rfl) ?_
            refine f_stepP rfl rfl rfl (o_move rfl) ?_
            refine f_stepP rfl rfl rfl (o_sub rfl rfl _ (show IntKind.i64.wrap ((mid : Int) + (m : Int) - (s : Int)) = ((mid + m - s : Nat) : Int) from by rw [wrap_i64 (by omega)]; omega)) ?_
            refine f_stepP rfl rfl rfl (o_assign rfl) ?_
            refine f_done ?_
            refine f_tn (kh42 _ _ ?_)
            clear kh42
            refine f_meet (α := List TT × Seg) [0, 1, 3, 4, 18, 20, 24] (fun ⟨l1, m1⟩ => []) (fun ⟨l1, m1⟩ => [m1]) (fun ⟨l1, m1⟩ => Rot l l1 s m (mid + m - s) ∧ tiN N (some ⟨b', 0, none⟩) cap l1 m1) ?_ ?_
            · intro K43 kh43
              refine f_seq fun K44 kh44 => ?_
              refine f_region ?_
              refine f_stepP rfl rfl rfl (o_move rfl) ?_
              refine f_stepP rfl rfl rfl (o_move rfl) ?_
              refine f_stepP rfl rfl rfl (o_lss rfl rfl) ?_
              refine f_stepP rfl rfl rfl (o_move rfl) ?_
              refine f_splitL 181 rfl (fun g181 => ?_) (fun g181 => ?_)
              · skip
                refine f_stepPY rfl rfl rfl rfl rfl (o_move rfl) ?_
                refine f_stepPY rfl rfl rfl rfl rfl (o_move rfl) ?_
                refine f_stepPY rfl rfl rfl rfl rfl (o_lss rfl rfl) ?_
                refine f_stepP rfl rfl rfl (o_pickT rfl rfl) ?_
                refine f_done ?_
                refine f_tn (kh44 _ _ ?_)
                clear kh44
                refine f_cond rfl (fun c185 => ?_) (fun c185 => ?_)
                · skip
                  obtain ⟨P, X, Y, Q, hl, hP, hX, hY⟩ := cut4 l (a := s) (m := m) (b := mid + m - s) (by omega) (by omega) (by omega)
                  refine f_region ?_
                  refine f_stepP rfl rfl rfl (o_move rfl) ?_
                  refine f_stepP rfl rfl rfl (o_move rfl) ?_
                  refine f_stepP rfl rfl rfl (o_move rfl) ?_
                  refine f_stepP rfl rfl rfl (o_move rfl) ?_
                  refine f_stepP rfl rfl rfl (o_move rfl) ?_
                  refine f_step rfl rfl rfl (o_callM [[(b', blk (l.flatMap tcs ++ sp) 41)]] _ Try.call76 rfl (Sub.pick Sub.refl) (fun w_ hp_ => rotate_spec N cap (some ⟨b', 0, none⟩) P X Y Q [(b', blk (l.flatMap tcs ++ sp) 41)] cmpT s m (mid + m - s) w_ hN (by rw [← hl]; exact ho) (by omega) (by omega) (by omega) (by omega) (by omega) hp_.owns) ?_)
                  rintro _ _ ⟨rfl, m1, rfl, ho1⟩
                  dsimp only [List.cons_append, List.nil_append]
                  refine f_done ?_
                  refine f_tn (kh43 _ _ (P ++ (Y ++ (X ++ Q)), m1) ⟨by have h := Rot.of_split (P := P) (X := X) (Y := Y) (Q := Q); rw [← hl, hP, hX, hY, show s + (m - s) = m by omega, show m + (mid + m - s - m) = mid + m - s by omega] at h; exact h, ho1⟩ ?_ ?_ ?_)
                  · exact (by repeat (first | exact trivial | refine ⟨rfl, ?_⟩))
                  · exact (by repeat (first | exact trivial | refine ⟨rfl, ?_⟩))
                  · repeat (first | exact Sub.nil | refine Sub.pick ?_ | refine Sub.castO rfl ?_ | refine Sub.skip ?_)
                · skip
                  refine f_skip ?_
                  refine f_tn (kh43 _ _ (l, [(b', blk (l.flatMap tcs ++ sp) 41)]) ⟨Rot.none (by omega) (by omega), ho⟩ ?_ ?_ ?_)
                  · exact (by repeat (first | exact trivial | refine ⟨rfl, ?_⟩))
                  · exact (by repeat (first | exact trivial | refine ⟨rfl, ?_⟩))
                  · repeat (first | exact Sub.nil | refine Sub.pick ?_ | refine Sub.castO rfl ?_ | refine Sub.skip ?_)
              · skip
                refine f_stepN rfl rfl rfl rfl rfl rfl ?_
                refine f_stepN rfl rfl rfl rfl rfl rfl ?_
                refine f_stepN rfl rfl rfl rfl rfl rfl ?_
                refine f_stepP rfl rfl rfl (o_pickF rfl rfl) ?_
                refine f_done ?_
                refine f_tn (kh44 _ _ ?_)
                clear kh44
                refine f_condF rfl ?_
                refine f_skip ?_
                refine f_tn (kh43 _ _ (l, [(b', blk (l.flatMap tcs ++ sp) 41)]) ⟨Rot.none (by omega) (by omega), ho⟩ ?_ ?_ ?_)
                · exact (by repeat (first | exact trivial | refine ⟨rfl, ?_⟩))
                · exact (by repeat (first | exact trivial | refine ⟨rfl, ?_⟩))
                · repeat (first | exact Sub.nil | refine Sub.pick ?_ | refine Sub.castO rfl ?_ | refine Sub.skip ?_)
            · rintro ⟨l1, m1⟩ ⟨hRt, ho1⟩
              have hHv := halves hM hH' hRt (by omega) (by omega) hc has0
              have hlen1 := ho1.len
              refine f_meet (α := List TT × Seg) [0, 3, 4, 18, 24] (fun ⟨l2, m2⟩ => []) (fun ⟨l2, m2⟩ => [m2]) (fun ⟨l2, m2⟩ => Srt l1 l2 a mid ∧ tiN N (some ⟨b', 0, none⟩) cap l2 m2) ?_ ?_
              · intro K45 kh45
                refine f_seq fun K46 kh46 => ?_
                refine f_region ?_
                refine f_stepP rfl rfl rfl (o_move rfl) ?_
                refine f_stepP rfl rfl rfl (o_move rfl) ?_
                refine f_stepP rfl rfl rfl (o_lss rfl rfl) ?_
                refine f_stepP rfl rfl rfl (o_move rfl) ?_
                refine f_splitL 195 rfl (fun g195 => ?_) (fun g195 => ?_)
                · skip
                  refine f_stepPY rfl rfl rfl rfl rfl (o_move rfl) ?_
                  refine f_stepPY rfl rfl rfl rfl rfl (o_move rfl) ?_
                  refine f_stepPY rfl rfl rfl rfl rfl (o_lss rfl rfl) ?_
                  refine f_stepP rfl rfl rfl (o_pickT rfl rfl) ?_
                  refine f_done ?_
                  refine f_tn (kh46 _ _ ?_)
                  clear kh46
                  refine f_cond rfl (fun c199 => ?_) (fun c199 => ?_)
                  · skip
                    have hM1 : Mrg l1 a s mid := ⟨by omega, by omega, by omega, hHv.s1, hHv.s2, hHv.t1⟩
                    refine f_region ?_
                    refine f_stepP rfl rfl rfl (o_move rfl) ?_
                    refine f_stepP rfl rfl rfl (o_move rfl) ?_
                    refine f_stepP rfl rfl rfl (o_move rfl) ?_
                    refine f_stepP rfl rfl rfl (o_move rfl) ?_
                    refine f_stepP rfl rfl rfl (o_move rfl) ?_
                    refine f_step rfl rfl rfl (o_callM [m1] _ Try.call64 rfl (Sub.pick Sub.refl) (fun w_ hp_ => ih (mid - a) (by omega) N cap (some ⟨b', 0, none⟩) l1 m1 a s mid w_ rfl hN ho1 (hk.perm hRt.perm) hM1 hp_.owns) ?_)
                    rintro _ _ ⟨l2, m2, rfl, rfl, hS2, ho2⟩
                    dsimp only [List.cons_append, List.nil_append]
                    refine f_done ?_
                    refine f_tn (kh45 _ _ (l2, m2) ⟨hS2, ho2⟩ ?_ ?_ ?_)
                    · exact (by repeat (first | exact trivial | refine ⟨rfl, ?_⟩))
                    · exact (by repeat (first | exact trivial | refine ⟨rfl, ?_⟩))
                    · repeat (first | exact Sub.nil | refine Sub.pick ?_ | refine Sub.castO rfl ?_ | refine Sub.skip ?_)
                  · skip
                    refine f_skip ?_
                    refine f_tn (kh45 _ _ (l1, m1) ⟨Srt.same (by have h := hHv.s1; exact h.sub (Nat.le_refl _) (by omega)), ho1⟩ ?_ ?_ ?_)
                    · exact (by repeat (first | exact trivial | refine ⟨rfl, ?_⟩))
                    · exact (by repeat (first | exact trivial | refine ⟨rfl, ?_⟩))
                    · repeat (first | exact Sub.nil | refine Sub.pick ?_ | refine Sub.castO rfl ?_ | refine Sub.skip ?_)
                · skip
                  refine f_stepN rfl rfl rfl rfl rfl rfl ?_
                  refine f_stepN rfl rfl rfl rfl rfl rfl ?_
                  refine f_stepN rfl rfl rfl rfl rfl rfl ?_
                  refine f_stepP rfl rfl rfl (o_pickF rfl rfl) ?_
                  refine f_done ?_
                  refine f_tn (kh46 _ _ ?_)
                  clear kh46
                  refine f_condF rfl ?_
                  refine f_skip ?_
                  refine f_tn (kh45 _ _ (l1, m1) ⟨Srt.same (by have h := hHv.s2; exact h.sub (by omega) (Nat.le_refl _)), ho1⟩ ?_ ?_ ?_)
                  · exact (by repeat (first | exact trivial | refine ⟨rfl, ?_⟩))
                  · exact (by repeat (first | exact trivial | refine ⟨rfl, ?_⟩))
                  · repeat (first | exact Sub.nil | refine Sub.pick ?_ | refine Sub.castO rfl ?_ | refine Sub.skip ?_)
              · rintro ⟨l2, m2⟩ ⟨hS2, ho2⟩
                have hlen2 := ho2.len
                refine f_seq fun K47 kh47 => ?_
                refine f_region ?_
                refine f_stepP rfl rfl rfl (o_move rfl) ?_
                refine f_stepP rfl rfl rfl (o_move rfl) ?_
                refine f_stepP rfl rfl rfl (o_lss rfl rfl) ?_
                refine f_stepP rfl rfl rfl (o_move rfl) ?_
                refine f_splitL 209 rfl (fun g209 => ?_) (fun g209 => ?_)
                · skip
                  refine f_stepPY rfl rfl rfl rfl rfl (o_move rfl) ?_
                  refine f_stepPY rfl rfl rfl rfl rfl (o_move rfl) ?_
                  refine f_stepPY rfl rfl rfl rfl rfl (o_lss rfl rfl) ?_
                  refine f_stepP rfl rfl rfl (o_pickT rfl rfl) ?_
                  refine f_done ?_
                  refine f_tn (kh47 _ _ ?_)
                  clear kh47
                  refine f_cond rfl (fun c213 => ?_) (fun c213 => ?_)
                  · skip
                    have hM2 : Mrg l2 mid (mid + m - s) b := ⟨by omega, by omega, by omega, fun i j h1 h2 h3 => by rw [hS2.out i (.inr (by omega)), hS2.out j (.inr (by omega))]; exact hHv.s3 i j h1 h2 h3, fun i j h1 h2 h3 => by rw [hS2.out i (.inr (by omega)), hS2.out j (.inr (by omega))]; exact hHv.s4 i j h1 h2 h3, fun i j h1 h2 h3 h4 => by rw [hS2.out i (.inr (by omega)), hS2.out j (.inr (by omega))]; exact hHv.t2 i j h1 h2 h3 h4⟩
                    refine f_region ?_
                    refine f_stepP rfl rfl rfl (o_move rfl) ?_
                    refine f_stepP rfl rfl rfl (o_move rfl) ?_
                    refine f_stepP rfl rfl rfl (o_move rfl) ?_
                    refine f_stepP rfl rfl rfl (o_move rfl) ?_
                    refine f_stepP rfl rfl rfl (o_move rfl) ?_
                    refine f_step rfl rfl rfl (o_callM [m2] _ Try.call64 rfl (Sub.pick Sub.refl) (fun w_ hp_ => ih (b - mid) (by omega) N cap (some ⟨b', 0, none⟩) l2 m2 mid (mid + m - s) b w_ rfl hN ho2 ((hk.perm hRt.perm).perm hS2.perm) hM2 hp_.owns) ?_)
                    rintro _ _ ⟨l3, m3, rfl, rfl, hS3, ho3⟩
                    dsimp only [List.cons_append, List.nil_append]
                    refine f_done ?_
                    exact f_fin0n [m3] Try.results64 (by repeat (first | exact Sub.nil | refine Sub.pick ?_ | refine Sub.castO rfl ?_)) ⟨l3, m3, rfl, rfl, Halves.done (m := m) hRt.perm hRt.len (fun i hi => hRt.out i (by omega)) (hRt.mem (by omega) (by omega)) hHv (by omega) hS2 hS3, ho3⟩
                  · skip
                    refine f_skip ?_
                    have hS3 : Srt l2 l2 mid b := Srt.same fun i j h1 h2 h3 => by rw [hS2.out i (.inr (by omega)), hS2.out j (.inr (by omega))]; exact hHv.s3 i j h1 h2 (by omega)
                    exact f_fin0n [m2] Try.results64 (by repeat (first | exact Sub.nil | refine Sub.pick ?_ | refine Sub.castO rfl ?_)) ⟨l2, m2, rfl, rfl, Halves.done (m := m) hRt.perm hRt.len (fun i hi => hRt.out i (by omega)) (hRt.mem (by omega) (by omega)) hHv (by omega) hS2 hS3, ho2⟩
                · skip
                  refine f_stepN rfl rfl rfl rfl rfl rfl ?_
                  refine f_stepN rfl rfl rfl rfl rfl rfl ?_
                  refine f_stepN rfl rfl rfl rfl rfl rfl ?_
                  refine f_stepP rfl rfl rfl (o_pickF rfl rfl) ?_
                  refine f_done ?_
                  refine f_tn (kh47 _ _ ?_)
                  clear kh47
                  refine f_condF rfl ?_
                  refine f_skip ?_
                  have hS3 : Srt l2 l2 mid b := Srt.same fun i j h1 h2 h3 => by rw [hS2.out i (.inr (by omega)), hS2.out j (.inr (by omega))]; exact hHv.s4 i j (by omega) h2 h3
                  exact f_fin0n [m2] Try.results64 (by repeat (first | exact Sub.nil | refine Sub.pick ?_ | refine Sub.castO rfl ?_)) ⟨l2, m2, rfl, rfl, Halves.done (m := m) hRt.perm hRt.len (fun i hi => hRt.out i (by omega)) (hRt.mem (by omega) (by omega)) hHv (by omega) hS2 hS3, ho2⟩

set_option maxRecDepth 100000 in
set_option maxHeartbeats 4000000 in
theorem stable_spec (N cap : Nat) (A : Option Addr) (l : List TT) (ms : Seg) (w : World) (hN : N ≤ 1000000) (ho : tiN N A cap l ms) (hk : KOk l) (htag : ∀ i j, i < j → j < l.length → (el l i).2 < (el l j).2) (hw : Owns w [ms]) :
    Meets Try.prog 54 [.slice A N cap, .int .i64 (N : Int), cmpT] w [ms] (StbΦ N cap A l) := by
  have hlen := ho.len
  refine f_enter Try.func54 rfl Try.ntmps54 rfl hw ?_
  refine f_seq fun K1 kh1 => ?_
  refine f_region ?_
  refine f_stepP rfl rfl rfl (o_assign rfl) ?_
  refine f_done ?_
  refine f_tn (kh1 _ _ ?_)
  clear kh1
  refine f_seq fun K2 kh2 => ?_
  refine f_region ?_
  refine f_stepP rfl rfl rfl (o_move rfl) ?_
  refine f_stepP rfl rfl rfl (o_assign rfl) ?_
  refine f_stepP rfl rfl rfl (o_assign rfl) ?_
  refine f_done ?_
  refine f_tn (kh2 _ _ ?_)
  clear kh2
  refine f_seq fun K3 kh3 => ?_
  refine f_block ?_
  refine f_loop (α := Nat × List TT × Seg) [0, 1, 2, 6] (fun ⟨q, l1, m1⟩ => [(7, .int .i64 ((q * 20 : Nat) : Int)), (8, .int .i64 ((q * 20 + 20 : Nat) : Int))]) (fun ⟨q, l1, m1⟩ => [m1]) (fun ⟨q, l1, m1⟩ => Stp l l1 20 q ∧ q * 20 ≤ N ∧ (∀ i, q * 20 ≤ i → el l1 i = el l i) ∧ tiN N A cap l1 m1) (fun ⟨q, l1, m1⟩ => N - q * 20) (0, l, ms) ?_ ?_ ?_ ?_
  · exact (by repeat (first | exact trivial | refine ⟨rfl, ?_⟩))
  · repeat (first | exact Sub.nil | refine Sub.pick ?_ | refine Sub.castO rfl ?_ | refine Sub.skip ?_)
  · exact ⟨Stp.begin htag, by omega, fun _ _ => rfl, ho⟩
  · rintro ⟨q, l1, m1⟩ ⟨hSt, hqN, hrest, ho1⟩
    have hlen1 := ho1.len
    refine f_seq fun K4 kh4 => ?_
    refine f_seq fun K5 kh5 => ?_
    refine f_region ?_
    refine f_stepP rfl rfl rfl (o_move rfl) ?_
    refine f_stepP rfl rfl rfl (o_move rfl) ?_
    refine f_stepP rfl rfl rfl (o_leq rfl rfl) ?_
    refine f_done ?_
    refine f_tn (kh5 _ _ ?_)
    clear kh5
    refine f_cond rfl (fun c13 => ?_) (fun c13 => ?_)
    · skip
      refine f_skip ?_
      refine f_tn (kh4 _ _ ?_)
      clear kh4
      refine f_block ?_
      refine f_seq fun K6 kh6 => ?_
      refine f_region ?_
      refine f_stepP rfl rfl rfl (o_move rfl) ?_
      refine f_stepP rfl rfl rfl (o_move rfl) ?_
      refine f_stepP rfl rfl rfl (o_move rfl) ?_
      refine f_stepP rfl rfl rfl (o_move rfl) ?_
      refine f_step rfl rfl rfl (o_callM [m1] _ Try.call63 rfl (Sub.pick Sub.refl) (fun w_ hp_ => insT_spec N cap A l1 m1 (q * 20) (q * 20 + 20) w_ hN ho1 (hk.perm hSt.perm) (by omega) (by omega) (fun i j h1 h2 h3 => by rw [hrest i (by omega), hrest j (by omega)]; exact htag i j h2 (by omega)) hp_.owns) ?_)
      rintro _ _ ⟨l2, m2, rfl, rfl, hS2, ho2⟩
      dsimp only [List.cons_append, List.nil_append]
      refine f_done ?_
      refine f_tn (kh6 _ _ ?_)
      clear kh6
      refine f_seq fun K7 kh7 => ?_
      refine f_region ?_
      refine f_stepP rfl rfl rfl (o_move rfl) ?_
      refine f_stepP rfl rfl rfl (o_assign rfl) ?_
      refine f_done ?_
      refine f_tn (kh7 _ _ ?_)
      clear kh7
      refine f_region ?_
      refine f_stepP rfl rfl rfl (o_move rfl) ?_
      refine f_stepP rfl rfl rfl (o_move rfl) ?_
      refine f_stepP rfl rfl rfl (o_add rfl rfl _ (show IntKind.i64.wrap (((q * 20 + 20 : Nat) : Int) + 20) = (((q + 1) * 20 + 20 : Nat) : Int) from by rw [wrap_i64 (by omega)]; omega)) ?_
      refine f_stepP rfl rfl rfl (o_assign rfl) ?_
      refine f_done ?_
      refine f_bn ?_
      rw [show ((q * 20 + 20 : Nat) : Int) = (((q + 1) * 20 : Nat) : Int) by omega]
      refine f_tn (f_again (q + 1, l2, m2) (by first | omega | (dsimp only; omega) | (simp; omega)) ⟨hSt.next hS2 (by omega), by omega, fun i hi => by rw [hS2.out i (.inr (by omega)), hrest i (by omega)], ho2⟩ ?_ ?_ ?_)
      · exact (by repeat (first | exact trivial | refine ⟨rfl, ?_⟩))
      · exact (by repeat (first | exact trivial | refine ⟨rfl, ?_⟩))
      · repeat (first | exact Sub.nil | refine Sub.pick ?_ | refine Sub.castO rfl ?_ | refine Sub.skip ?_)
    · skip
      refine f_exit ?_
      refine f_te ?_
      clear kh4
      refine f_te ?_
      refine f_be ?_
      refine f_tn (kh3 _ _ ?_)
      clear kh3
      refine f_seq fun K8 kh8 => ?_
      refine f_region ?_
      refine f_stepP rfl rfl rfl (o_move rfl) ?_
      refine f_stepP rfl rfl rfl (o_move rfl) ?_
      refine f_stepP rfl rfl rfl (o_move rfl) ?_
      refine f_stepP rfl rfl rfl (o_move rfl) ?_
      refine f_step rfl rfl rfl (o_callM [m1] _ Try.call63 rfl (Sub.pick Sub.refl) (fun w_ hp_ => insT_spec N cap A l1 m1 (q * 20) N w_ hN ho1 (hk.perm hSt.perm) (by omega) (by omega) (fun i j h1 h2 h3 => by rw [hrest i (by omega), hrest j (by omega)]; exact htag i j h2 (by omega)) hp_.owns) ?_)
      rintro _ _ ⟨l2, m2, rfl, rfl, hS2, ho2⟩
      dsimp only [List.cons_append, List.nil_append]
      refine f_done ?_
      refine f_tn (kh8 _ _ ?_)
      clear kh8
      refine f_block ?_
      refine f_loop (α := Nat × List TT × Seg) [0, 1, 2] (fun ⟨bs, l3, m3⟩ => [(6, .int .i64 (bs : Int))]) (fun ⟨bs, l3, m3⟩ => [m3]) (fun ⟨bs, l3, m3⟩ => 20 ≤ bs ∧ (bs ≤ 20 ∨ bs ≤ 2 * N) ∧ Blk l l3 bs ∧ tiN N A cap l3 m3) (fun ⟨bs, l3, m3⟩ => N - bs) (20, l2, m2) ?_ ?_ ?_ ?_
      · exact (by repeat (first | exact trivial | refine ⟨rfl, ?_⟩))
      · repeat (first | exact Sub.nil | refine Sub.pick ?_ | refine Sub.castO rfl ?_ | refine Sub.skip ?_)
      · exact ⟨Nat.le_refl _, .inl (Nat.le_refl _), hSt.last (by rw [hlen1]; exact hS2) (by omega) (by omega), ho2⟩
      · rintro ⟨bs, l3, m3⟩ ⟨hb20, hbN, hBk, ho3⟩
        have hlen3 := ho3.len
        refine f_seq fun K9 kh9 => ?_
        refine f_seq fun K10 kh10 => ?_
        refine f_region ?_
        refine f_stepP rfl rfl rfl (o_move rfl) ?_
        refine f_stepP rfl rfl rfl (o_move rfl) ?_
        refine f_stepP rfl rfl rfl (o_lss rfl rfl) ?_
        refine f_done ?_
        refine f_tn (kh10 _ _ ?_)
        clear kh10
        refine f_cond rfl (fun c30 => ?_) (fun c30 => ?_)
        · skip
          refine f_skip ?_
          refine f_tn (kh9 _ _ ?_)
          clear kh9
          refine f_block ?_
          refine f_seq fun K11 kh11 => ?_
          refine f_region ?_
          refine f_stepP rfl rfl rfl (o_move rfl) ?_
          refine f_stepP rfl rfl rfl (o_mul rfl rfl _ (show IntKind.i64.wrap (2 * (bs : Int)) = ((0 + 2 * bs : Nat) : Int) from by rw [wrap_i64 (by omega)]; omega)) ?_
          refine f_stepP rfl rfl rfl (o_assign rfl) ?_
          refine f_stepP rfl rfl rfl (o_assign rfl) ?_
          refine f_done ?_
          refine f_tn (kh11 _ _ ?_)
          clear kh11
          refine f_seq fun K12 kh12 => ?_
          refine f_block ?_
          refine f_loop (α := Nat × Nat × List TT × Seg) [0, 1, 2, 6] (fun ⟨q, a, l4, m4⟩ => [(7, .int .i64 (a : Int)), (8, .int .i64 ((a + 2 * bs : Nat) : Int))]) (fun ⟨q, a, l4, m4⟩ => [m4]) (fun ⟨q, a, l4, m4⟩ => a = q * (2 * bs) ∧ a ≤ N ∧ Twi l l4 bs q ∧ tiN N A cap l4 m4) (fun ⟨q, a, l4, m4⟩ => N - a) (0, 0, l3, m3) ?_ ?_ ?_ ?_
          · exact (by repeat (first | exact trivial | refine ⟨rfl, ?_⟩))
          · repeat (first | exact Sub.nil | refine Sub.pick ?_ | refine Sub.castO rfl ?_ | refine Sub.skip ?_)
          · exact ⟨by simp, Nat.zero_le _, hBk.twi, ho3⟩
          · rintro ⟨q, a, l4, m4⟩ ⟨ha, haN, hTw, ho4⟩
            have hlen4 := ho4.len
            refine f_seq fun K13 kh13 => ?_
            refine f_seq fun K14 kh14 => ?_
            refine f_region ?_
            refine f_stepP rfl rfl rfl (o_move rfl) ?_
            refine f_stepP rfl rfl rfl (o_move rfl) ?_
            refine f_stepP rfl rfl rfl (o_leq rfl rfl) ?_
            refine f_done ?_
            refine f_tn (kh14 _ _ ?_)
            clear kh14
            refine f_cond rfl (fun c35 => ?_) (fun c35 => ?_)
            · skip
              refine f_skip ?_
              refine f_tn (kh13 _ _ ?_)
              clear kh13
              refine f_block ?_
              refine f_seq fun K15 kh15 => ?_
              refine f_region ?_
              refine f_stepP rfl rfl rfl (o_move rfl) ?_
              refine f_stepP rfl rfl rfl (o_move rfl) ?_
              refine f_stepP rfl rfl rfl (o_move rfl) ?_
              refine f_stepP rfl rfl rfl (o_move rfl) ?_
              refine f_stepP rfl rfl rfl (o_add rfl rfl _ (show IntKind.i64.wrap ((a : Int) + (bs : Int)) = ((a + bs : Nat) : Int) from by rw [wrap_i64 (by omega)]; omega)) ?_
              refine f_stepP rfl rfl rfl (o_move rfl) ?_
              refine f_stepP rfl rfl rfl (o_move rfl) ?_
              refine f_step rfl rfl rfl (o_callM [m4] _ Try.call64 rfl (Sub.pick Sub.refl) (fun w_ hp_ => symMerge_spec _ N cap A l4 m4 a (a + bs) (a + 2 * bs) w_ rfl hN ho4 (hk.perm hTw.stp.perm) (by have h := hTw.mrg (b := a + 2 * bs) (by omega) (by omega) (by omega) (by omega); rw [← ha] at h; exact h) hp_.owns) ?_)
              rintro _ _ ⟨l5, m5, rfl, rfl, hS5, ho5⟩
              dsimp only [List.cons_append, List.nil_append]
              refine f_done ?_
              refine f_tn (kh15 _ _ ?_)
              clear kh15
              refine f_seq fun K16 kh16 => ?_
              refine f_region ?_
              refine f_stepP rfl rfl rfl (o_move rfl) ?_
              refine f_stepP rfl rfl rfl (o_assign rfl) ?_
              refine f_done ?_
              refine f_tn (kh16 _ _ ?_)
              clear kh16
              refine f_region ?_
              refine f_stepP rfl rfl rfl (o_move rfl) ?_
              refine f_stepP rfl rfl rfl (o_move rfl) ?_
              refine f_stepP rfl rfl rfl (o_mul rfl rfl _ (wrap_i64 (by omega))) ?_
              refine f_stepP rfl rfl rfl (o_add rfl rfl _ (show IntKind.i64.wrap (((a + 2 * bs : Nat) : Int) + 2 * (bs : Int)) = ((a + 2 * bs + 2 * bs : Nat) : Int) from by rw [wrap_i64 (by omega)]; omega)) ?_
              refine f_stepP rfl rfl rfl (o_assign rfl) ?_
              refine f_done ?_
              refine f_bn ?_
              refine f_tn (f_again (q + 1, a + 2 * bs, l5, m5) (by show N - (a + 2 * bs) < N - a; omega) ⟨by rw [ha]; exact (succ_mul' q (2 * bs)).symm, by omega, hTw.next (by rw [← ha]; exact hS5) (by omega), ho5⟩ ?_ ?_ ?_)
              · exact (by repeat (first | exact trivial | refine ⟨rfl, ?_⟩))
              · exact (by repeat (first | exact trivial | refine ⟨rfl, ?_⟩))
              · repeat (first | exact Sub.nil | refine Sub.pick ?_ | refine Sub.castO rfl ?_ | refine Sub.skip ?_)
            · skip
              refine f_exit ?_
              refine f_te ?_
              clear kh13
              refine f_te ?_
              refine f_be ?_
              refine f_tn (kh12 _ _ ?_)
              clear kh12
              refine f_seq fun K17 kh17 => ?_
              refine f_seq fun K18 kh18 => ?_
              refine f_region ?_
              refine f_stepP rfl rfl rfl (o_move rfl) ?_
              refine f_stepP rfl rfl rfl (o_move rfl) ?_
              refine f_stepP rfl rfl rfl (o_add rfl rfl _ (show IntKind.i64.wrap ((a : Int) + (bs : Int)) = ((a + bs : Nat) : Int) from by rw [wrap_i64 (by omega)]; omega)) ?_
              refine f_stepP rfl rfl rfl (o_assign rfl) ?_
              refine f_done ?_
              refine f_tn (kh18 _ _ ?_)
              clear kh18
              refine f_seq fun K19 kh19 => ?_
              refine f_region ?_
              refine f_stepP rfl rfl rfl (o_move rfl) ?_
              refine f_stepP rfl rfl rfl (o_move rfl) ?_
              refine f_stepP rfl rfl rfl (o_lss rfl rfl) ?_
              refine f_done ?_
              refine f_tn (kh19 _ _ ?_)
              clear kh19
              refine f_cond rfl (fun c54 => ?_) (fun c54 => ?_)
              · skip
                refine f_region ?_
                refine f_stepP rfl rfl rfl (o_move rfl) ?_
                refine f_stepP rfl rfl rfl (o_move rfl) ?_
                refine f_stepP rfl rfl rfl (o_move rfl) ?_
                refine f_stepP rfl rfl rfl (o_move rfl) ?_
                refine f_stepP rfl rfl rfl (o_move rfl) ?_
                refine f_step rfl rfl rfl (o_callM [m4] _ Try.call64 rfl (Sub.pick Sub.refl) (fun w_ hp_ => symMerge_spec _ N cap A l4 m4 a (a + bs) N w_ rfl hN ho4 (hk.perm hTw.stp.perm) (by have h := hTw.mrg (b := N) (by omega) (by omega) (by omega) (by omega); rw [← ha] at h; exact h) hp_.owns) ?_)
                rintro _ _ ⟨l5, m5, rfl, rfl, hS5, ho5⟩
                dsimp only [List.cons_append, List.nil_append]
                refine f_done ?_
                refine f_tn (kh17 _ _ ?_)
                clear kh17
                refine f_region ?_
                refine f_stepP rfl rfl rfl (o_move rfl) ?_
                refine f_stepP rfl rfl rfl (o_mul rfl rfl _ (show IntKind.i64.wrap ((bs : Int) * 2) = ((2 * bs : Nat) : Int) from by rw [wrap_i64 (by omega)]; omega)) ?_
                refine f_stepP rfl rfl rfl (o_assign rfl) ?_
                refine f_done ?_
                refine f_bn ?_
                refine f_tn (f_again (2 * bs, l5, m5) (by show N - 2 * bs < N - bs; omega) ⟨by omega, .inr (by omega), hTw.stp.last (by rw [hlen4, ← ha]; exact hS5) (by omega) (by omega), ho5⟩ ?_ ?_ ?_)
                · exact (by repeat (first | exact trivial | refine ⟨rfl, ?_⟩))
                · exact (by repeat (first | exact trivial | refine ⟨rfl, ?_⟩))
                · repeat (first | exact Sub.nil | refine Sub.pick ?_ | refine Sub.castO rfl ?_ | refine Sub.skip ?_)
              · skip
                refine f_skip ?_
                refine f_tn (kh17 _ _ ?_)
                clear kh17
                refine f_region ?_
                refine f_stepP rfl rfl rfl (o_move rfl) ?_
                refine f_stepP rfl rfl rfl (o_mul rfl rfl _ (show IntKind.i64.wrap ((bs : Int) * 2) = ((2 * bs : Nat) : Int) from by rw [wrap_i64 (by omega)]; omega)) ?_
                refine f_stepP rfl rfl rfl (o_assign rfl) ?_
                refine f_done ?_
                refine f_bn ?_
                refine f_tn (f_again (2 * bs, l4, m4) (by show N - 2 * bs < N - bs; omega) ⟨by omega, .inr (by omega), hTw.stp.last (Srt.same (hTw.rest (by omega))) (by omega) (by omega), ho4⟩ ?_ ?_ ?_)
                · exact (by repeat (first | exact trivial | refine ⟨rfl, ?_⟩))
                · exact (by repeat (first | exact trivial | refine ⟨rfl, ?_⟩))
                · repeat (first | exact Sub.nil | refine Sub.pick ?_ | refine Sub.castO rfl ?_ | refine Sub.skip ?_)
        · skip
          refine f_exit ?_
          refine f_te ?_
          clear kh9
          refine f_te ?_
          refine f_be ?_
          have hall := hBk.all (by omega)
          rw [hlen3] at hall
          exact f_fin0n [m3] Try.results54 (by repeat (first | exact Sub.nil | refine Sub.pick ?_ | refine Sub.castO rfl ?_)) ⟨l3, m3, rfl, rfl, hBk.perm, hall, ho3⟩

set_option maxRecDepth 100000 in
set_option maxHeartbeats 4000000 in
theorem sortStable_spec (N cap : Nat) (A : Option Addr) (l : List TT) (ms : Seg) (w : World) (hN : N ≤ 1000000) (ho : tiN N A cap l ms) (hk : KOk l) (htag : ∀ i j, i < j → j < l.length → (el l i).2 < (el l j).2) (hw : Owns w [ms]) :
    Meets Try.prog 34 [.slice A N cap, cmpT] w [ms] (StbΦ N cap A l) := by
  refine f_enter Try.func34 rfl Try.ntmps34 rfl hw ?_
  refine f_region ?_
  refine f_stepP rfl rfl rfl (o_move rfl) ?_
  refine f_stepP rfl rfl rfl (o_move rfl) ?_
  refine f_stepP rfl rfl rfl (o_len sl36 rfl) ?_
  refine f_stepP rfl rfl rfl (o_move rfl) ?_
  refine f_step rfl rfl rfl (o_callM [ms] _ Try.call54 rfl (Sub.pick Sub.refl) (fun w_ hp_ => stable_spec N cap A l ms w_ hN ho hk htag hp_.owns) ?_)
  rintro _ _ ⟨l2, m2, rfl, rfl, h1, h2, ho2⟩
  dsimp only [List.cons_append, List.nil_append]
  refine f_done ?_
  exact f_fin0n [m2] Try.results34 (by repeat (first | exact Sub.nil | refine Sub.pick ?_ | refine Sub.castO rfl ?_)) ⟨l2, m2, rfl, rfl, h1, h2, ho2⟩

end Go.Proofs.Ytbkneamjpiiepaa
