/- slices.SortStableFunc over timers: walked in place. -/
import Derived.Test.YtbkneamjpiiepaaFNet
import Derived.Test.YtbkneamjpiiepaaPStable
namespace Go.Proofs.Ytbkneamjpiiepaa
open Go Go.RowKit Fly
set_option linter.unusedVariables false
set_option linter.unusedSimpArgs false


def tcs (x : TT) : List Value := timCs x.1
theorem tcs_len (x : TT) : (tcs x).length = 3 := rfl
theorem tcs_one (x : TT) : (tcs x).all (·.oneCell') = true := rfl
abbrev tiN (N : Nat) (A : Option Addr) (cap : Nat) (l : List TT) (m : Seg) : Prop := Own 41 3 (.slice A N cap) N (l.flatMap tcs) m
theorem tiN.len {N cap : Nat} {A : Option Addr} {l : List TT} {m : Seg} (h : tiN N A cap l m) : l.length = N := by
  have := h.1; rw [flat_length tcs tcs_len] at this; omega
theorem rdsEl {S : Nat → Prop} {w0 : World} {segs : List Seg} {l : List TT} {sp : List Value} {b T : Nat} {f : Seg → List Seg} [h : At segs b (blk (l.flatMap tcs ++ sp) T) f] {k : Nat} {x : TT} (hk : k < l.length) (e : el l k = x) : Rds S w0 segs b (k * 3) (tcs x) := by
  subst e; rw [el_eq hk]; exact rdsOwn tcs_len hk
theorem tiN.upd {N cap : Nat} {A : Option Addr} {l : List TT} {m : Seg} (h : tiN N A cap l m) (hN : 0 < N) : ∃ b sp, A = some ⟨b, 0, none⟩ ∧ m = [(b, blk (l.flatMap tcs ++ sp) 41)] ∧ ∀ l' : List TT, l'.length = l.length → tiN N A cap l' [(b, blk (l'.flatMap tcs ++ sp) 41)] := by
  obtain ⟨b, sp, e1, e2, h3⟩ := Own.upd h hN
  exact ⟨b, sp, e1, e2, fun l' hl => h3 _ (by rw [flat_length tcs tcs_len, flat_length tcs tcs_len, hl])⟩
theorem st_room {l : List TT} {sp : List Value} {k : Nat} {x : TT} (h : k < l.length) : k * 3 + (tcs x).length ≤ (l.flatMap tcs ++ sp).length := by
  rw [List.length_append, flat_length tcs tcs_len, tcs_len]; omega
/-- What a sort in place answers. -/
def SrtΦ (N cap : Nat) (A : Option Addr) (l : List TT) (a b : Nat) (u : Value) (own : List Seg) : Prop := ∃ l' m', u = .tuple #[] ∧ own = [m'] ∧ Srt l l' a b ∧ tiN N A cap l' m'
theorem half_is {p : Int} {h : Nat} (hp : 0 ≤ p) (e : p / 2 = (h : Int)) : p.fdiv (2 ^ (min ((1 : Int).toNat) IntKind.u64.bits)) = (h : Int) := by
  show p.fdiv 2 = _
  rw [Int.fdiv_eq_ediv_of_nonneg _ (by decide)]; exact e
abbrev cmpT : Value := .func (.func 35) #[] #[]
/-- Keys as the program compares them. -/
def KOk (l : List TT) : Prop := ∀ i, i < l.length → 0 ≤ tk (el l i) ∧ tk (el l i) ≤ 64
theorem KOk.perm {l l' : List TT} (h : KOk l) (hp : l'.Perm l) : KOk l' := fun i hi => by
  have hm : el l' i ∈ l := hp.mem_iff.1 (by rw [el_eq hi]; exact List.getElem_mem hi)
  obtain ⟨j, hj, e⟩ := List.mem_iff_getElem.1 hm
  have := h j hj
  rw [el_eq hj, e] at this
  exact this

set_option maxRecDepth 100000 in
set_option maxHeartbeats 4000000 in
theorem cmpT_spec (x y : TT) (w : World) (hx : 0 ≤ tk x ∧ tk x ≤ 64) (hy : 0 ≤ tk y ∧ tk y ≤ 64) :
    Meets Try.prog 35 ([] ++ [.agg (tcs x).toArray, .agg (tcs y).toArray] ++ []) w [] (fun u m => u = .int .i64 (tk x - tk y) ∧ m = []) := by
  refine f_enter Try.func35 rfl Try.ntmps35 rfl Owns.nil ?_
  refine f_seq fun K1 kh1 => ?_
  refine f_region ?_
  refine f_step rfl rfl rfl (o_box rfl rfl fun b2 => ?_)
  refine f_step rfl rfl rfl (o_box rfl rfl fun b3 => ?_)
  refine f_stepP rfl rfl rfl (o_assign rfl) ?_
  refine f_done ?_
  refine f_tn (kh1 _ _ ?_)
  clear kh1
  refine f_seq fun K2 kh2 => ?_
  refine f_region ?_
  refine f_stepP rfl rfl rfl (o_field fa41_0 rfl) ?_
  refine f_stepP rfl rfl rfl (o_load Try.isAgg3 rfl (rdA (v := .int .i64 (tk x)) rfl)) ?_
  refine f_stepP rfl rfl rfl (o_field fa41_0 rfl) ?_
  refine f_stepP rfl rfl rfl (o_load Try.isAgg3 rfl (rdA (v := .int .i64 (tk y)) rfl)) ?_
  refine f_stepP rfl rfl rfl (o_sub rfl rfl _ (wrap_i64 (by omega))) ?_
  refine f_stepP rfl rfl rfl (o_assign rfl) ?_
  refine f_done ?_
  refine f_tn (kh2 _ _ ?_)
  clear kh2
  refine f_ret ?_
  exact f_fin1 [] Try.results35 rfl Sub.nil ⟨rfl, rfl⟩

set_option maxRecDepth 100000 in
set_option maxHeartbeats 4000000 in
theorem swapR_spec (N cap : Nat) (A : Option Addr) (P X M Y Q : List TT) (m : Seg) (cv : Value) (a b n : Nat) (w : World) (hN : N ≤ 1000000) (ho : tiN N A cap (P ++ (X ++ (M ++ (Y ++ Q)))) m) (hX : X.length = n) (hY : Y.length = n) (ha : a = P.length) (hb : b = P.length + X.length + M.length) (hw : Owns w [m]) :
    Meets Try.prog 82 [.slice A N cap, .int .i64 (a : Int), .int .i64 (b : Int), .int .i64 (n : Int), cv] w [m] (fun u own' => u = .tuple #[] ∧ ∃ m', own' = [m'] ∧ tiN N A cap (P ++ (Y ++ (M ++ (X ++ Q)))) m') := by
  have hlen := ho.len
  simp only [List.length_append] at hlen
  refine f_enter Try.func82 rfl Try.ntmps82 rfl hw ?_
  refine f_seq fun K1 kh1 => ?_
  refine f_region ?_
  refine f_stepP rfl rfl rfl (o_assign rfl) ?_
  refine f_done ?_
  refine f_tn (kh1 _ _ ?_)
  clear kh1
  refine f_block ?_
  refine f_loop (α := Nat × Seg) [0, 1, 2, 3] (fun ⟨k, m1⟩ => [(10, .int .i64 (k : Int))]) (fun ⟨k, m1⟩ => [m1]) (fun ⟨k, m1⟩ => k ≤ n ∧ tiN N A cap (exch P X M Y Q k) m1) (fun ⟨k, m1⟩ => n - k) (0, m) ?_ ?_ ?_ ?_
  · exact (by repeat (first | exact trivial | refine ⟨rfl, ?_⟩))
  · repeat (first | exact Sub.nil | refine Sub.pick ?_ | refine Sub.castO rfl ?_ | refine Sub.skip ?_)
  · exact ⟨Nat.zero_le _, by rw [exch_zero]; exact ho⟩
  · rintro ⟨k, m1⟩ ⟨hkn, ho1⟩
    refine f_seq fun K2 kh2 => ?_
    refine f_seq fun K3 kh3 => ?_
    refine f_region ?_
    refine f_stepP rfl rfl rfl (o_move rfl) ?_
    refine f_stepP rfl rfl rfl (o_move rfl) ?_
    refine f_stepP rfl rfl rfl (o_lss rfl rfl) ?_
    refine f_done ?_
    refine f_tn (kh3 _ _ ?_)
    clear kh3
    refine f_cond rfl (fun c13 => ?_) (fun c13 => ?_)
    · skip
      refine f_skip ?_
      refine f_tn (kh2 _ _ ?_)
      clear kh2
      refine f_seq fun K4 kh4 => ?_
      refine f_block ?_
      obtain ⟨b', sp, rfl, rfl, hup⟩ := ho1.upd (by omega)
      have hk : k < X.length := by omega
      have hel := exch_len (P := P) (X := X) (M := M) (Y := Y) (Q := Q) (k := k) (by omega)
      refine f_regionH [] rfl ?_
      refine f_take 0 rfl (by decide +kernel) rfl rfl rfl (by repeat (first | exact Sub.nil | refine Sub.pick ?_ | refine Sub.castO rfl ?_ | refine Sub.skip ?_)) (o_move rfl) ?_
      refine f_take 1 rfl (by decide +kernel) rfl rfl rfl (by repeat (first | exact Sub.nil | refine Sub.pick ?_ | refine Sub.castO rfl ?_ | refine Sub.skip ?_)) (o_move rfl) ?_
      refine f_take 2 rfl (by decide +kernel) rfl rfl rfl (by repeat (first | exact Sub.nil | refine Sub.pick ?_ | refine Sub.castO rfl ?_ | refine Sub.skip ?_)) (o_move rfl) ?_
      refine f_take 3 rfl (by decide +kernel) rfl rfl rfl (by repeat (first | exact Sub.nil | refine Sub.pick ?_ | refine Sub.castO rfl ?_ | refine Sub.skip ?_)) (o_add rfl rfl _ (wrap_i64 (by omega))) ?_
      refine f_take 4 rfl (by decide +kernel) rfl rfl rfl (by repeat (first | exact Sub.nil | refine Sub.pick ?_ | refine Sub.castO rfl ?_ | refine Sub.skip ?_)) (o_move rfl) ?_
      refine f_take 5 rfl (by decide +kernel) rfl rfl rfl (by repeat (first | exact Sub.nil | refine Sub.pick ?_ | refine Sub.castO rfl ?_ | refine Sub.skip ?_)) (o_move rfl) ?_
      refine f_take 6 rfl (by decide +kernel) rfl rfl rfl (by repeat (first | exact Sub.nil | refine Sub.pick ?_ | refine Sub.castO rfl ?_ | refine Sub.skip ?_)) (o_move rfl) ?_
      refine f_take 7 rfl (by decide +kernel) rfl rfl rfl (by repeat (first | exact Sub.nil | refine Sub.pick ?_ | refine Sub.castO rfl ?_ | refine Sub.skip ?_)) (o_add rfl rfl _ (wrap_i64 (by omega))) ?_
      refine f_take 8 rfl (by decide +kernel) rfl rfl rfl (by repeat (first | exact Sub.nil | refine Sub.pick ?_ | refine Sub.castO rfl ?_ | refine Sub.skip ?_)) (o_move rfl) ?_
      refine f_take 9 rfl (by decide +kernel) rfl rfl rfl (by repeat (first | exact Sub.nil | refine Sub.pick ?_ | refine Sub.castO rfl ?_ | refine Sub.skip ?_)) (o_move rfl) ?_
      refine f_take 10 rfl (by decide +kernel) rfl rfl rfl (by repeat (first | exact Sub.nil | refine Sub.pick ?_ | refine Sub.castO rfl ?_ | refine Sub.skip ?_)) (o_move rfl) ?_
      refine f_take 11 rfl (by decide +kernel) rfl rfl rfl (by repeat (first | exact Sub.nil | refine Sub.pick ?_ | refine Sub.castO rfl ?_ | refine Sub.skip ?_)) (o_add rfl rfl _ (wrap_i64 (by omega))) ?_
      refine f_take 12 rfl (by decide +kernel) rfl rfl rfl (by repeat (first | exact Sub.nil | refine Sub.pick ?_ | refine Sub.castO rfl ?_ | refine Sub.skip ?_)) (o_idx sl36 rfl rfl ((b + k) * 3) ⟨by omega, by omega, by first | omega | (simp; done) | (simp; omega)⟩) ?_
      refine f_take 14 rfl (by decide +kernel) rfl rfl rfl (by repeat (first | exact Sub.nil | refine Sub.pick ?_ | refine Sub.castO rfl ?_ | refine Sub.skip ?_)) (o_move rfl) ?_
      refine f_take 15 rfl (by decide +kernel) rfl rfl rfl (by repeat (first | exact Sub.nil | refine Sub.pick ?_ | refine Sub.castO rfl ?_ | refine Sub.skip ?_)) (o_move rfl) ?_
      refine f_take 16 rfl (by decide +kernel) rfl rfl rfl (by repeat (first | exact Sub.nil | refine Sub.pick ?_ | refine Sub.castO rfl ?_ | refine Sub.skip ?_)) (o_move rfl) ?_
      refine f_take 17 rfl (by decide +kernel) rfl rfl rfl (by repeat (first | exact Sub.nil | refine Sub.pick ?_ | refine Sub.castO rfl ?_ | refine Sub.skip ?_)) (o_add rfl rfl _ (wrap_i64 (by omega))) ?_
      refine f_take 18 rfl (by decide +kernel) rfl rfl rfl (by repeat (first | exact Sub.nil | refine Sub.pick ?_ | refine Sub.castO rfl ?_ | refine Sub.skip ?_)) (o_idx sl36 rfl rfl ((a + k) * 3) ⟨by omega, by omega, by first | omega | (simp; done) | (simp; omega)⟩) ?_
      refine f_two 13 19 rfl rfl (by decide +kernel) rfl rfl rfl rfl rfl rfl ?_ ?_
      · skip
        refine (o_loadA (vs := tcs (Y[k]'(by omega))) Try.isAgg41 Try.sizeOf41 rfl rfl (rdsEl (k := b + k) (by omega) (exch_el2 hk (by omega) (by omega)))).does ⟨(by repeat (first | exact Sub.nil | refine Sub.pick ?_ | refine Sub.castO rfl ?_ | refine Sub.skip ?_)), ?_⟩
        refine f_only 19 rfl (by decide +kernel) rfl rfl rfl ((o_loadA (vs := tcs X[k]) Try.isAgg41 Try.sizeOf41 rfl rfl (rdsEl (k := a + k) (by omega) (exch_el1 hk (by omega) (by omega)))).does ⟨(by repeat (first | exact Sub.nil | refine Sub.pick ?_ | refine Sub.castO rfl ?_ | refine Sub.skip ?_)), ?_⟩)
        refine f_take 20 rfl (by decide +kernel) rfl rfl rfl (by repeat (first | exact Sub.nil | refine Sub.pick ?_ | refine Sub.castO rfl ?_ | refine Sub.skip ?_)) (o_idx sl36 rfl rfl ((a + k) * 3) ⟨by omega, by omega, by first | omega | (simp; done) | (simp; omega)⟩) ?_
        refine f_only0 21 rfl (by decide +kernel) rfl rfl (o_storeA Try.sizeOf41 rfl rfl rfl rfl (st_room (by omega)) (((exch P X M Y Q k).set (a + k) (Y[k]'(by omega))).flatMap tcs ++ sp) (setMany_flat tcs_len sp _ _ _ (by first | omega | (simp only [List.length_set]; omega))) ⟨(by repeat (first | exact Sub.nil | refine Sub.pick ?_ | refine Sub.castO rfl ?_ | refine Sub.skip ?_)), ?_⟩)
        refine f_take 22 rfl (by decide +kernel) rfl rfl rfl (by repeat (first | exact Sub.nil | refine Sub.pick ?_ | refine Sub.castO rfl ?_ | refine Sub.skip ?_)) (o_idx sl36 rfl rfl ((b + k) * 3) ⟨by omega, by omega, by first | omega | (simp; done) | (simp; omega)⟩) ?_
        refine f_only0 23 rfl (by decide +kernel) rfl rfl (o_storeA Try.sizeOf41 rfl rfl rfl rfl (st_room (by rw [List.length_set]; omega)) ((exch P X M Y Q (k + 1)).flatMap tcs ++ sp) (by rw [← exch_next hk (show X.length = Y.length by omega) (show a + k = P.length + k by omega) (show b + k = P.length + X.length + M.length + k by omega)]; exact setMany_flat tcs_len sp _ _ _ (by rw [List.length_set]; omega)) ⟨(by repeat (first | exact Sub.nil | refine Sub.pick ?_ | refine Sub.castO rfl ?_ | refine Sub.skip ?_)), ?_⟩)
        refine f_over (by decide +kernel) ?_
        refine f_bn ?_
        refine f_tn (kh4 _ _ ?_)
        clear kh4
        refine f_region ?_
        refine f_stepP rfl rfl rfl (o_move rfl) ?_
        refine f_stepP rfl rfl rfl (o_add rfl rfl _ (wrap_i64 (by omega))) ?_
        refine f_stepP rfl rfl rfl (o_assign rfl) ?_
        refine f_done ?_
        refine f_tn (f_again (k + 1, [(b', blk ((exch P X M Y Q (k + 1)).flatMap tcs ++ sp) 41)]) (by first | omega | (dsimp only; omega) | (simp; omega)) ⟨by omega, hup _ (by rw [exch_len (by omega), exch_len (by omega)])⟩ ?_ ?_ ?_)
        · exact (by repeat (first | exact trivial | refine ⟨rfl, ?_⟩))
        · exact (by repeat (first | exact trivial | refine ⟨rfl, ?_⟩))
        · repeat (first | exact Sub.nil | refine Sub.pick ?_ | refine Sub.castO rfl ?_ | refine Sub.skip ?_)
      · skip
        refine (o_loadA (vs := tcs X[k]) Try.isAgg41 Try.sizeOf41 rfl rfl (rdsEl (k := a + k) (by omega) (exch_el1 hk (by omega) (by omega)))).does ⟨(by repeat (first | exact Sub.nil | refine Sub.pick ?_ | refine Sub.castO rfl ?_ | refine Sub.skip ?_)), ?_⟩
        refine f_only 13 rfl (by decide +kernel) rfl rfl rfl ((o_loadA (vs := tcs (Y[k]'(by omega))) Try.isAgg41 Try.sizeOf41 rfl rfl (rdsEl (k := b + k) (by omega) (exch_el2 hk (by omega) (by omega)))).does ⟨(by repeat (first | exact Sub.nil | refine Sub.pick ?_ | refine Sub.castO rfl ?_ | refine Sub.skip ?_)), ?_⟩)
        refine f_take 20 rfl (by decide +kernel) rfl rfl rfl (by repeat (first | exact Sub.nil | refine Sub.pick ?_ | refine Sub.castO rfl ?_ | refine Sub.skip ?_)) (o_idx sl36 rfl rfl ((a + k) * 3) ⟨by omega, by omega, by first | omega | (simp; done) | (simp; omega)⟩) ?_
        refine f_only0 21 rfl (by decide +kernel) rfl rfl (o_storeA Try.sizeOf41 rfl rfl rfl rfl (st_room (by omega)) (((exch P X M Y Q k).set (a + k) (Y[k]'(by omega))).flatMap tcs ++ sp) (setMany_flat tcs_len sp _ _ _ (by first | omega | (simp only [List.length_set]; omega))) ⟨(by repeat (first | exact Sub.nil | refine Sub.pick ?_ | refine Sub.castO rfl ?_ | refine Sub.skip ?_)), ?_⟩)
        refine f_take 22 rfl (by decide +kernel) rfl rfl rfl (by repeat (first | exact Sub.nil | refine Sub.pick ?_ | refine Sub.castO rfl ?_ | refine Sub.skip ?_)) (o_idx sl36 rfl rfl ((b + k) * 3) ⟨by omega, by omega, by first | omega | (simp; done) | (simp; omega)⟩) ?_
        refine f_only0 23 rfl (by decide +kernel) rfl rfl (o_storeA Try.sizeOf41 rfl rfl rfl rfl (st_room (by rw [List.length_set]; omega)) ((exch P X M Y Q (k + 1)).flatMap tcs ++ sp) (by rw [← exch_next hk (show X.length = Y.length by omega) (show a + k = P.length + k by omega) (show b + k = P.length + X.length + M.length + k by omega)]; exact setMany_flat tcs_len sp _ _ _ (by rw [List.length_set]; omega)) ⟨(by repeat (first | exact Sub.nil | refine Sub.pick ?_ | refine Sub.castO rfl ?_ | refine Sub.skip ?_)), ?_⟩)
        refine f_over (by decide +kernel) ?_
        refine f_bn ?_
        refine f_tn (kh4 _ _ ?_)
        clear kh4
        refine f_region ?_
        refine f_stepP rfl rfl rfl (o_move rfl) ?_
        refine f_stepP rfl rfl rfl (o_add rfl rfl _ (wrap_i64 (by omega))) ?_
        refine f_stepP rfl rfl rfl (o_assign rfl) ?_
        refine f_done ?_
        refine f_tn (f_again (k + 1, [(b', blk ((exch P X M Y Q (k + 1)).flatMap tcs ++ sp) 41)]) (by first | omega | (dsimp only; omega) | (simp; omega)) ⟨by omega, hup _ (by rw [exch_len (by omega), exch_len (by omega)])⟩ ?_ ?_ ?_)
        · exact (by repeat (first | exact trivial | refine ⟨rfl, ?_⟩))
        · exact (by repeat (first | exact trivial | refine ⟨rfl, ?_⟩))
        · repeat (first | exact Sub.nil | refine Sub.pick ?_ | refine Sub.castO rfl ?_ | refine Sub.skip ?_)
    · skip
      refine f_exit ?_
      refine f_te ?_
      clear kh2
      refine f_te ?_
      refine f_be ?_
      obtain rfl : k = n := by omega
      rw [exch_all hX hY] at ho1
      exact f_fin0n [m1] Try.results82 (by repeat (first | exact Sub.nil | refine Sub.pick ?_ | refine Sub.castO rfl ?_)) ⟨rfl, m1, rfl, ho1⟩

set_option maxRecDepth 100000 in
set_option maxHeartbeats 4000000 in
theorem rotate_spec (N cap : Nat) (A : Option Addr) (P X Y Q : List TT) (ms : Seg) (cv : Value) (a m b : Nat) (w : World) (hN : N ≤ 1000000) (ho : tiN N A cap (P ++ (X ++ (Y ++ Q))) ms) (hX : 0 < X.length) (hY : 0 < Y.length) (ha : a = P.length) (hm : m = P.length + X.length) (hb : b = P.length + X.length + Y.length) (hw : Owns w [ms]) :
    Meets Try.prog 76 [.slice A N cap, .int .i64 (a : Int), .int .i64 (m : Int), .int .i64 (b : Int), cv] w [ms] (fun u own' => u = .tuple #[] ∧ ∃ m', own' = [m'] ∧ tiN N A cap (P ++ (Y ++ (X ++ Q))) m') := by
  have hlen := ho.len
  simp only [List.length_append] at hlen
  refine f_enter Try.func76 rfl Try.ntmps76 rfl hw ?_
  refine f_seq fun K1 kh1 => ?_
  refine f_region ?_
  refine f_stepP rfl rfl rfl (o_move rfl) ?_
  refine f_stepP rfl rfl rfl (o_move rfl) ?_
  refine f_stepP rfl rfl rfl (o_sub rfl rfl _ (wrap_i64 (by omega))) ?_
  refine f_stepP rfl rfl rfl (o_assign rfl) ?_
  refine f_done ?_
  refine f_tn (kh1 _ _ ?_)
  clear kh1
  refine f_seq fun K2 kh2 => ?_
  refine f_region ?_
  refine f_stepP rfl rfl rfl (o_move rfl) ?_
  refine f_stepP rfl rfl rfl (o_move rfl) ?_
  refine f_stepP rfl rfl rfl (o_sub rfl rfl _ (wrap_i64 (by omega))) ?_
  refine f_stepP rfl rfl rfl (o_assign rfl) ?_
  refine f_done ?_
  refine f_tn (kh2 _ _ ?_)
  clear kh2
  refine f_seq fun K3 kh3 => ?_
  refine f_block ?_
  rw [show (m : Int) - (a : Int) = (X.length : Int) by omega, show (b : Int) - (m : Int) = (Y.length : Int) by omega]
  refine f_loop (α := List TT × List TT × List TT × List TT × Seg) [0, 2, 4] (fun ⟨P', X', Y', Q', m1⟩ => [(10, .int .i64 (X'.length : Int)), (11, .int .i64 (Y'.length : Int))]) (fun ⟨P', X', Y', Q', m1⟩ => [m1]) (fun ⟨P', X', Y', Q', m1⟩ => P'.length + X'.length = m ∧ 0 < X'.length ∧ 0 < Y'.length ∧ P' ++ (Y' ++ (X' ++ Q')) = P ++ (Y ++ (X ++ Q)) ∧ tiN N A cap (P' ++ (X' ++ (Y' ++ Q'))) m1) (fun ⟨P', X', Y', Q', m1⟩ => X'.length + Y'.length) (P, X, Y, Q, ms) ?_ ?_ ?_ ?_
  · exact (by repeat (first | exact trivial | refine ⟨rfl, ?_⟩))
  · repeat (first | exact Sub.nil | refine Sub.pick ?_ | refine Sub.castO rfl ?_ | refine Sub.skip ?_)
  · exact ⟨by omega, hX, hY, rfl, ho⟩
  · rintro ⟨P', X', Y', Q', m1⟩ ⟨hm', hX', hY', he, ho1⟩
    have hlen1 := ho1.len
    simp only [List.length_append] at hlen1
    refine f_seq fun K4 kh4 => ?_
    refine f_seq fun K5 kh5 => ?_
    refine f_region ?_
    refine f_stepP rfl rfl rfl (o_move rfl) ?_
    refine f_stepP rfl rfl rfl (o_move rfl) ?_
    refine f_stepP rfl rfl rfl (o_neq rfl rfl) ?_
    refine f_done ?_
    refine f_tn (kh5 _ _ ?_)
    clear kh5
    refine f_cond rfl (fun c20 => ?_) (fun c20 => ?_)
    · skip
      refine f_skip ?_
      refine f_tn (kh4 _ _ ?_)
      clear kh4
      refine f_block ?_
      refine f_seq fun K6 kh6 => ?_
      refine f_region ?_
      refine f_stepP rfl rfl rfl (o_move rfl) ?_
      refine f_stepP rfl rfl rfl (o_move rfl) ?_
      refine f_stepP rfl rfl rfl (o_gtr rfl rfl) ?_
      refine f_done ?_
      refine f_tn (kh6 _ _ ?_)
      clear kh6
      refine f_cond rfl (fun c23 => ?_) (fun c23 => ?_)
      · skip
        refine f_seq fun K7 kh7 => ?_
        refine f_region ?_
        refine f_stepP rfl rfl rfl (o_move rfl) ?_
        refine f_stepP rfl rfl rfl (o_move rfl) ?_
        refine f_stepP rfl rfl rfl (o_move rfl) ?_
        refine f_stepP rfl rfl rfl (o_sub rfl rfl _ (wrap_i64 (by omega))) ?_
        refine f_stepP rfl rfl rfl (o_move rfl) ?_
        refine f_stepP rfl rfl rfl (o_move rfl) ?_
        refine f_stepP rfl rfl rfl (o_move rfl) ?_
        refine f_step rfl rfl rfl (o_callM [m1] _ Try.call82 rfl (Sub.pick Sub.refl) (fun w_ hp_ => (by have h := swapR_spec N cap A P' (X'.take Y'.length) (X'.drop Y'.length) Y' Q' m1 cv P'.length m Y'.length w_ hN (by rw [← List.append_assoc (X'.take _), List.take_append_drop]; exact ho1) (by simp; omega) rfl rfl (by simp; omega) hp_.owns; rw [show ((P'.length : Nat) : Int) = (m : Int) - (X'.length : Int) by omega] at h; exact h)) ?_)
        rintro _ _ ⟨rfl, m2, rfl, ho2⟩
        dsimp only [List.cons_append, List.nil_append]
        refine f_done ?_
        refine f_tn (kh7 _ _ ?_)
        clear kh7
        refine f_region ?_
        refine f_stepP rfl rfl rfl (o_move rfl) ?_
        refine f_stepP rfl rfl rfl (o_move rfl) ?_
        refine f_stepP rfl rfl rfl (o_sub rfl rfl _ (wrap_i64 (by omega))) ?_
        refine f_stepP rfl rfl rfl (o_assign rfl) ?_
        refine f_done ?_
        refine f_bn ?_
        rw [show ((X'.length : Int) - (Y'.length : Int)) = ((X'.drop Y'.length).length : Int) by simp; omega, show (Y'.length : Int) = ((X'.take Y'.length).length : Int) by simp; omega]
        refine f_tn (f_again (P' ++ Y', X'.drop Y'.length, X'.take Y'.length, Q', m2) (by show (X'.drop Y'.length).length + (X'.take Y'.length).length < X'.length + Y'.length; simp; omega) ⟨by simp; omega, by simp; omega, by simp; omega, by rw [← he]; simp only [List.append_assoc]; rw [← List.append_assoc (X'.take _), List.take_append_drop], by simp only [List.append_assoc] at ho2 ⊢; exact ho2⟩ ?_ ?_ ?_)
        · exact (by repeat (first | exact trivial | refine ⟨rfl, ?_⟩))
        · exact (by repeat (first | exact trivial | refine ⟨rfl, ?_⟩))
        · repeat (first | exact Sub.nil | refine Sub.pick ?_ | refine Sub.castO rfl ?_ | refine Sub.skip ?_)
      · skip
        refine f_seq fun K8 kh8 => ?_
        refine f_region ?_
        refine f_stepP rfl rfl rfl (o_move rfl) ?_
        refine f_stepP rfl rfl rfl (o_move rfl) ?_
        refine f_stepP rfl rfl rfl (o_move rfl) ?_
        refine f_stepP rfl rfl rfl (o_sub rfl rfl _ (wrap_i64 (by omega))) ?_
        refine f_stepP rfl rfl rfl (o_move rfl) ?_
        refine f_stepP rfl rfl rfl (o_move rfl) ?_
        refine f_stepP rfl rfl rfl (o_add rfl rfl _ (wrap_i64 (by omega))) ?_
        refine f_stepP rfl rfl rfl (o_move rfl) ?_
        refine f_stepP rfl rfl rfl (o_sub rfl rfl _ (wrap_i64 (by omega))) ?_
        refine f_stepP rfl rfl rfl (o_move rfl) ?_
        refine f_stepP rfl rfl rfl (o_move rfl) ?_
        refine f_step rfl rfl rfl (o_callM [m1] _ Try.call82 rfl (Sub.pick Sub.refl) (fun w_ hp_ => (by have h := swapR_spec N cap A P' X' (Y'.take (Y'.length - X'.length)) (Y'.drop (Y'.length - X'.length)) Q' m1 cv P'.length (m + Y'.length - X'.length) X'.length w_ hN (by rw [← List.append_assoc (Y'.take _), List.take_append_drop]; exact ho1) rfl (by simp; omega) rfl (by simp; omega) hp_.owns; rw [show ((P'.length : Nat) : Int) = (m : Int) - (X'.length : Int) by omega, show ((m + Y'.length - X'.length : Nat) : Int) = (m : Int) + (Y'.length : Int) - (X'.length : Int) by omega] at h; exact h)) ?_)
        rintro _ _ ⟨rfl, m2, rfl, ho2⟩
        dsimp only [List.cons_append, List.nil_append]
        refine f_done ?_
        refine f_tn (kh8 _ _ ?_)
        clear kh8
        refine f_region ?_
        refine f_stepP rfl rfl rfl (o_move rfl) ?_
        refine f_stepP rfl rfl rfl (o_move rfl) ?_
        refine f_stepP rfl rfl rfl (o_sub rfl rfl _ (wrap_i64 (by omega))) ?_
        refine f_stepP rfl rfl rfl (o_assign rfl) ?_
        refine f_done ?_
        refine f_bn ?_
        rw [show ((Y'.length : Int) - (X'.length : Int)) = ((Y'.take (Y'.length - X'.length)).length : Int) by simp; omega, show (X'.length : Int) = ((Y'.drop (Y'.length - X'.length)).length : Int) by simp; omega]
        refine f_tn (f_again (P', Y'.drop (Y'.length - X'.length), Y'.take (Y'.length - X'.length), X' ++ Q', m2) (by show (Y'.drop (Y'.length - X'.length)).length + (Y'.take (Y'.length - X'.length)).length < X'.length + Y'.length; simp; omega) ⟨by simp; omega, by simp; omega, by simp; omega, by rw [← he]; rw [← List.append_assoc (Y'.take _), List.take_append_drop], ho2⟩ ?_ ?_ ?_)
        · exact (by repeat (first | exact trivial | refine ⟨rfl, ?_⟩))
        · exact (by repeat (first | exact trivial | refine ⟨rfl, ?_⟩))
        · repeat (first | exact Sub.nil | refine Sub.pick ?_ | refine Sub.castO rfl ?_ | refine Sub.skip ?_)
    · skip
      refine f_exit ?_
      refine f_te ?_
      clear kh4
      refine f_te ?_
      refine f_be ?_
      refine f_tn (kh3 _ _ ?_)
      clear kh3
      refine f_region ?_
      refine f_stepP rfl rfl rfl (o_move rfl) ?_
      refine f_stepP rfl rfl rfl (o_move rfl) ?_
      refine f_stepP rfl rfl rfl (o_move rfl) ?_
      refine f_stepP rfl rfl rfl (o_sub rfl rfl _ (wrap_i64 (by omega))) ?_
      refine f_stepP rfl rfl rfl (o_move rfl) ?_
      refine f_stepP rfl rfl rfl (o_move rfl) ?_
      refine f_stepP rfl rfl rfl (o_move rfl) ?_
      refine f_step rfl rfl rfl (o_callM [m1] _ Try.call82 rfl (Sub.pick Sub.refl) (fun w_ hp_ => (by have h := swapR_spec N cap A P' X' [] Y' Q' m1 cv P'.length m X'.length w_ hN ho1 rfl (by omega) rfl (by simp; omega) hp_.owns; rw [show ((P'.length : Nat) : Int) = (m : Int) - (X'.length : Int) by omega] at h; exact h)) ?_)
      rintro _ _ ⟨rfl, m2, rfl, ho2⟩
      dsimp only [List.cons_append, List.nil_append]
      refine f_done ?_
      rw [List.nil_append, he] at ho2
      exact f_fin0n [m2] Try.results76 (by repeat (first | exact Sub.nil | refine Sub.pick ?_ | refine Sub.castO rfl ?_)) ⟨rfl, m2, rfl, ho2⟩

set_option maxRecDepth 100000 in
set_option maxHeartbeats 4000000 in
theorem insT_spec (N cap : Nat) (A : Option Addr) (l : List TT) (ms : Seg) (a b : Nat) (w : World) (hN : N ≤ 1000000) (ho : tiN N A cap l ms) (hk : KOk l) (hab : a ≤ b) (hbN : b ≤ N) (htag : ∀ i j, a ≤ i → i < j → j < b → (el l i).2 < (el l j).2) (hw : Owns w [ms]) :
    Meets Try.prog 63 [.slice A N cap, .int .i64 (a : Int), .int .i64 (b : Int), cmpT] w [ms] (SrtΦ N cap A l a b) := by
  have hlen := ho.len
  obtain ⟨P, D, R, hl, hP, hD, hR⟩ := cut3 l hab (by omega)
  refine f_enter Try.func63 rfl Try.ntmps63 rfl hw ?_
  refine f_seq fun K1 kh1 => ?_
  refine f_region ?_
  refine f_stepP rfl rfl rfl (o_move rfl) ?_
  refine f_stepP rfl rfl rfl (o_add rfl rfl _ (show IntKind.i64.wrap ((a : Int) + 1) = ((a + 1 : Nat) : Int) from by rw [wrap_i64 (by omega)]; omega)) ?_
  refine f_stepP rfl rfl rfl (o_assign rfl) ?_
  refine f_done ?_
  refine f_tn (kh1 _ _ ?_)
  clear kh1
  refine f_block ?_
  refine f_loop (α := Nat × List TT × List TT × Seg) [0, 1, 2, 3] (fun ⟨q, S, l1, m1⟩ => [(8, .int .i64 ((a + q : Nat) : Int))]) (fun ⟨q, S, l1, m1⟩ => [m1]) (fun ⟨q, S, l1, m1⟩ => 1 ≤ q ∧ (q ≤ D.length ∨ D = []) ∧ l1 = P ++ (S ++ (D.drop q ++ R)) ∧ S.Perm (D.take q) ∧ S.Pairwise lx ∧ tiN N A cap l1 m1) (fun ⟨q, S, l1, m1⟩ => b + 1 - (a + q)) (1, D.take 1, l, ms) ?_ ?_ ?_ ?_
  · exact (by repeat (first | exact trivial | refine ⟨rfl, ?_⟩))
  · repeat (first | exact Sub.nil | refine Sub.pick ?_ | refine Sub.castO rfl ?_ | refine Sub.skip ?_)
  · exact ⟨Nat.le_refl _, by cases D with | nil => exact .inr rfl | cons _ _ => exact .inl (by simp), by rw [← List.append_assoc (D.take 1), List.take_append_drop]; exact hl, List.Perm.refl _, by cases D with | nil => simp | cons x D => simp, ho⟩
  · rintro ⟨q, S, l1, m1⟩ ⟨hq1, hqD, hl1, hS, hSs, ho1⟩
    have hlen1 := ho1.len
    refine f_seq fun K2 kh2 => ?_
    refine f_seq fun K3 kh3 => ?_
    refine f_region ?_
    refine f_stepP rfl rfl rfl (o_move rfl) ?_
    refine f_stepP rfl rfl rfl (o_move rfl) ?_
    refine f_stepP rfl rfl rfl (o_lss rfl rfl) ?_
    refine f_done ?_
    refine f_tn (kh3 _ _ ?_)
    clear kh3
    refine f_cond rfl (fun c14 => ?_) (fun c14 => ?_)
    · skip
      refine f_skip ?_
      refine f_tn (kh2 _ _ ?_)
      clear kh2
      refine f_seq fun K4 kh4 => ?_
      refine f_block ?_
      refine f_seq fun K5 kh5 => ?_
      refine f_region ?_
      refine f_stepP rfl rfl rfl (o_move rfl) ?_
      refine f_stepP rfl rfl rfl (o_assign rfl) ?_
      refine f_done ?_
      refine f_tn (kh5 _ _ ?_)
      clear kh5
      refine f_block ?_
      have hqd : q < D.length := by omega
      obtain ⟨x, hx⟩ : ∃ x, D[q] = x := ⟨_, rfl⟩
      have hSl : S.length = q := by rw [hS.length_eq]; simp; omega
      refine f_loop (α := Nat × List TT × List TT × List TT × Seg) [0, 1, 2, 3, 8] (fun ⟨j, S1, S2, l2, m2⟩ => [(9, .int .i64 (j : Int))]) (fun ⟨j, S1, S2, l2, m2⟩ => [m2]) (fun ⟨j, S1, S2, l2, m2⟩ => j = a + S1.length ∧ l2 = P ++ (S1 ++ x :: (S2 ++ (D.drop (q + 1) ++ R))) ∧ (S1 ++ x :: S2).Perm (D.take q ++ [x]) ∧ (∀ y ∈ S1, y.2 < x.2) ∧ Ins P S1 x S2 [] ∧ tiN N A cap l2 m2) (fun ⟨j, S1, S2, l2, m2⟩ => j) (a + q, S, [], l1, m1) ?_ ?_ ?_ ?_
      · exact (by repeat (first | exact trivial | refine ⟨rfl, ?_⟩))
      · repeat (first | exact Sub.nil | refine Sub.pick ?_ | refine Sub.castO rfl ?_ | refine Sub.skip ?_)
      · exact ⟨by omega, by rw [hl1, List.drop_eq_getElem_cons hqd, hx]; simp, hS.append_right _, fun y hy => by
        have hy' := hS.mem_iff.1 hy
        obtain ⟨i, hi, rfl⟩ := List.mem_iff_getElem.1 hy'
        have hi' : i < q := by simp at hi; omega
        have := htag (P.length + i) (P.length + q) (by omega) (by omega) (by omega)
        rw [hl, el_mid (by omega), el_mid hqd, el_eq (by omega), el_eq hqd, hx] at this
        rwa [List.getElem_take], ⟨hSs, List.Pairwise.nil, by simp, by simp⟩, ho1⟩
      · rintro ⟨j, S1, S2, l2, m2⟩ ⟨hj, hl2, hin, hy, hI, ho2⟩
        have hlen2 := ho2.len
        have hsum := congrArg List.length hl2
        simp only [List.length_append, List.length_cons] at hsum
        obtain ⟨b', sp, rfl, rfl, hup⟩ := ho2.upd (by omega)
        have hex : el l2 j = x := by rw [hl2]; exact el_adj (by omega)
        refine f_seq fun K6 kh6 => ?_
        refine f_seq fun K7 kh7 => ?_
        refine f_regionH [[(b', blk (l2.flatMap tcs ++ sp) 41)]] rfl ?_
        refine f_take 0 rfl (by decide +kernel) rfl rfl rfl (by repeat (first | exact Sub.nil | refine Sub.pick ?_ | refine Sub.castO rfl ?_ | refine Sub.skip ?_)) (o_move rfl) ?_
        refine f_take 1 rfl (by decide +kernel) rfl rfl rfl (by repeat (first | exact Sub.nil | refine Sub.pick ?_ | refine Sub.castO rfl ?_ | refine Sub.skip ?_)) (o_move rfl) ?_
        refine f_take 2 rfl (by decide +kernel) rfl rfl rfl (by repeat (first | exact Sub.nil | refine Sub.pick ?_ | refine Sub.castO rfl ?_ | refine Sub.skip ?_)) (o_gtr rfl rfl) ?_
        refine f_take 3 rfl (by decide +kernel) rfl rfl rfl (by repeat (first | exact Sub.nil | refine Sub.pick ?_ | refine Sub.castO rfl ?_ | refine Sub.skip ?_)) (o_move rfl) ?_
        refine f_splitH 21 rfl (fun g21 => ?_) (fun g21 => ?_)
        · skip
          obtain ⟨S3, y, rfl⟩ : ∃ S3 y, S1 = S3 ++ [y] := by
            rcases List.eq_nil_or_concat S1 with h | ⟨S3, y, h⟩
            · subst h; simp at hj; omega
            · exact ⟨S3, y, by simpa using h⟩
          simp only [List.length_append, List.length_cons, List.length_nil] at hj hsum
          obtain ⟨jj, rfl⟩ : ∃ jj, j = jj + 1 := ⟨j - 1, by omega⟩
          have hl2' : l2 = P ++ (S3 ++ y :: x :: (S2 ++ (D.drop (q + 1) ++ R))) := by rw [hl2]; simp
          have hey : el l2 jj = y := by rw [hl2']; exact el_adj (by omega)
          have hpl : l2.Perm l := by rw [hl2, hl]; refine List.Perm.append_left P ?_; rw [show (S3 ++ [y]) ++ x :: (S2 ++ (D.drop (q + 1) ++ R)) = ((S3 ++ [y]) ++ x :: S2) ++ (D.drop (q + 1) ++ R) by simp]; refine (hin.append_right _).trans ?_; rw [← hx, ← List.take_succ_eq_append_getElem hqd, ← List.append_assoc, List.take_append_drop]
          have hkx := (hk.perm hpl) (jj + 1) (by omega)
          have hky := (hk.perm hpl) jj (by omega)
          rw [hex] at hkx
          rw [hey] at hky
          refine f_takeY 4 rfl (by decide +kernel) rfl rfl rfl rfl rfl (by repeat (first | exact Sub.nil | refine Sub.pick ?_ | refine Sub.castO rfl ?_ | refine Sub.skip ?_)) (o_move rfl) ?_
          refine f_takeY 5 rfl (by decide +kernel) rfl rfl rfl rfl rfl (by repeat (first | exact Sub.nil | refine Sub.pick ?_ | refine Sub.castO rfl ?_ | refine Sub.skip ?_)) (o_move rfl) ?_
          refine f_takeY 6 rfl (by decide +kernel) rfl rfl rfl rfl rfl (by repeat (first | exact Sub.nil | refine Sub.pick ?_ | refine Sub.castO rfl ?_ | refine Sub.skip ?_)) (o_move rfl) ?_
          refine f_takeY 7 rfl (by decide +kernel) rfl rfl rfl rfl rfl (by repeat (first | exact Sub.nil | refine Sub.pick ?_ | refine Sub.castO rfl ?_ | refine Sub.skip ?_)) (o_idx sl36 rfl rfl ((jj + 1) * 3) ⟨by omega, by omega, by first | omega | (simp; done) | (simp; omega)⟩) ?_
          refine f_takeY 8 rfl (by decide +kernel) rfl rfl rfl rfl rfl (by repeat (first | exact Sub.nil | refine Sub.pick ?_ | refine Sub.castO rfl ?_ | refine Sub.skip ?_)) (o_loadA (vs := tcs x) Try.isAgg41 Try.sizeOf41 rfl rfl (rdsEl (k := jj + 1) (by omega) hex)) ?_
          refine f_takeY 9 rfl (by decide +kernel) rfl rfl rfl rfl rfl (by repeat (first | exact Sub.nil | refine Sub.pick ?_ | refine Sub.castO rfl ?_ | refine Sub.skip ?_)) (o_move rfl) ?_
          refine f_takeY 10 rfl (by decide +kernel) rfl rfl rfl rfl rfl (by repeat (first | exact Sub.nil | refine Sub.pick ?_ | refine Sub.castO rfl ?_ | refine Sub.skip ?_)) (o_move rfl) ?_
          refine f_takeY 11 rfl (by decide +kernel) rfl rfl rfl rfl rfl (by repeat (first | exact Sub.nil | refine Sub.pick ?_ | refine Sub.castO rfl ?_ | refine Sub.skip ?_)) (o_sub rfl rfl _ (wrap_i64 (by omega))) ?_
          refine f_takeY 12 rfl (by decide +kernel) rfl rfl rfl rfl rfl (by repeat (first | exact Sub.nil | refine Sub.pick ?_ | refine Sub.castO rfl ?_ | refine Sub.skip ?_)) (o_idx sl36 rfl rfl (jj * 3) ⟨by omega, by omega, by first | omega | (simp; done) | (simp; omega)⟩) ?_
          refine f_takeY 13 rfl (by decide +kernel) rfl rfl rfl rfl rfl (by repeat (first | exact Sub.nil | refine Sub.pick ?_ | refine Sub.castO rfl ?_ | refine Sub.skip ?_)) (o_loadA (vs := tcs y) Try.isAgg41 Try.sizeOf41 rfl rfl (rdsEl (k := jj) (by omega) hey)) ?_
          refine f_onlyY 14 rfl (by decide +kernel) rfl rfl rfl rfl rfl (o_callV [] _ Try.call35 rfl rfl Sub.refl (fun w_ hp_ => cmpT_spec x y w_ (by omega) (by omega)) ?_)
          rintro _ _ ⟨rfl, rfl⟩
          dsimp only [List.cons_append, List.nil_append]
          refine ⟨(by repeat (first | exact Sub.nil | refine Sub.pick ?_ | refine Sub.castO rfl ?_ | refine Sub.skip ?_)), ?_⟩
          refine f_takeY 15 rfl (by decide +kernel) rfl rfl rfl rfl rfl (by repeat (first | exact Sub.nil | refine Sub.pick ?_ | refine Sub.castO rfl ?_ | refine Sub.skip ?_)) (o_lss rfl rfl) ?_
          refine f_take 16 rfl (by decide +kernel) rfl rfl rfl (by repeat (first | exact Sub.nil | refine Sub.pick ?_ | refine Sub.castO rfl ?_ | refine Sub.skip ?_)) (o_pickT rfl rfl) ?_
          refine f_over (by decide +kernel) ?_
          refine f_tn (kh7 _ _ ?_)
          clear kh7
          refine f_cond rfl (fun c34 => ?_) (fun c34 => ?_)
          · skip
            refine f_skip ?_
            refine f_tn (kh6 _ _ ?_)
            clear kh6
            refine f_seq fun K8 kh8 => ?_
            refine f_block ?_
            refine f_regionH [] rfl ?_
            refine f_take 0 rfl (by decide +kernel) rfl rfl rfl (by repeat (first | exact Sub.nil | refine Sub.pick ?_ | refine Sub.castO rfl ?_ | refine Sub.skip ?_)) (o_move rfl) ?_
            refine f_take 1 rfl (by decide +kernel) rfl rfl rfl (by repeat (first | exact Sub.nil | refine Sub.pick ?_ | refine Sub.castO rfl ?_ | refine Sub.skip ?_)) (o_move rfl) ?_
            refine f_take 2 rfl (by decide +kernel) rfl rfl rfl (by repeat (first | exact Sub.nil | refine Sub.pick ?_ | refine Sub.castO rfl ?_ | refine Sub.skip ?_)) (o_move rfl) ?_
            refine f_take 3 rfl (by decide +kernel) rfl rfl rfl (by repeat (first | exact Sub.nil | refine Sub.pick ?_ | refine Sub.castO rfl ?_ | refine Sub.skip ?_)) (o_move rfl) ?_
            refine f_take 4 rfl (by decide +kernel) rfl rfl rfl (by repeat (first | exact Sub.nil | refine Sub.pick ?_ | refine Sub.castO rfl ?_ | refine Sub.skip ?_)) (o_sub rfl rfl _ (wrap_i64 (by omega))) ?_
            refine f_take 5 rfl (by decide +kernel) rfl rfl rfl (by repeat (first | exact Sub.nil | refine Sub.pick ?_ | refine Sub.castO rfl ?_ | refine Sub.skip ?_)) (o_move rfl) ?_
            refine f_take 6 rfl (by decide +kernel) rfl rfl rfl (by repeat (first | exact Sub.nil | refine Sub.pick ?_ | refine Sub.castO rfl ?_ | refine Sub.skip ?_)) (o_move rfl) ?_
            refine f_take 7 rfl (by decide +kernel) rfl rfl rfl (by repeat (first | exact Sub.nil | refine Sub.pick ?_ | refine Sub.castO rfl ?_ | refine Sub.skip ?_)) (o_sub rfl rfl _ (wrap_i64 (by omega))) ?_
            refine f_take 8 rfl (by decide +kernel) rfl rfl rfl (by repeat (first | exact Sub.nil | refine Sub.pick ?_ | refine Sub.castO rfl ?_ | refine Sub.skip ?_)) (o_idx sl36 rfl rfl (jj * 3) ⟨by omega, by omega, by first | omega | (simp; done) | (simp; omega)⟩) ?_
            refine f_take 10 rfl (by decide +kernel) rfl rfl rfl (by repeat (first | exact Sub.nil | refine Sub.pick ?_ | refine Sub.castO rfl ?_ | refine Sub.skip ?_)) (o_move rfl) ?_
            refine f_take 11 rfl (by decide +kernel) rfl rfl rfl (by repeat (first | exact Sub.nil | refine Sub.pick ?_ | refine Sub.castO rfl ?_ | refine Sub.skip ?_)) (o_move rfl) ?_
            refine f_take 12 rfl (by decide +kernel) rfl rfl rfl (by repeat (first | exact Sub.nil | refine Sub.pick ?_ | refine Sub.castO rfl ?_ | refine Sub.skip ?_)) (o_idx sl36 rfl rfl ((jj + 1) * 3) ⟨by omega, by omega, by first | omega | (simp; done) | (simp; omega)⟩) ?_
            refine f_two 9 13 rfl rfl (by decide +kernel) rfl rfl rfl rfl rfl rfl ?_ ?_
            · skip
              refine (o_loadA (vs := tcs y) Try.isAgg41 Try.sizeOf41 rfl rfl (rdsEl (k := jj) (by omega) hey)).does ⟨(by repeat (first | exact Sub.nil | refine Sub.pick ?_ | refine Sub.castO rfl ?_ | refine Sub.skip ?_)), ?_⟩
              refine f_only 13 rfl (by decide +kernel) rfl rfl rfl ((o_loadA (vs := tcs x) Try.isAgg41 Try.sizeOf41 rfl rfl (rdsEl (k := jj + 1) (by omega) hex)).does ⟨(by repeat (first | exact Sub.nil | refine Sub.pick ?_ | refine Sub.castO rfl ?_ | refine Sub.skip ?_)), ?_⟩)
              refine f_take 14 rfl (by decide +kernel) rfl rfl rfl (by repeat (first | exact Sub.nil | refine Sub.pick ?_ | refine Sub.castO rfl ?_ | refine Sub.skip ?_)) (o_idx sl36 rfl rfl ((jj + 1) * 3) ⟨by omega, by omega, by first | omega | (simp; done) | (simp; omega)⟩) ?_
              refine f_only0 15 rfl (by decide +kernel) rfl rfl (o_storeA Try.sizeOf41 rfl rfl rfl rfl (st_room (by omega)) ((l2.set (jj + 1) y).flatMap tcs ++ sp) (setMany_flat tcs_len sp _ _ _ (by first | omega | (simp only [List.length_set]; omega))) ⟨(by repeat (first | exact Sub.nil | refine Sub.pick ?_ | refine Sub.castO rfl ?_ | refine Sub.skip ?_)), ?_⟩)
              refine f_take 16 rfl (by decide +kernel) rfl rfl rfl (by repeat (first | exact Sub.nil | refine Sub.pick ?_ | refine Sub.castO rfl ?_ | refine Sub.skip ?_)) (o_idx sl36 rfl rfl (jj * 3) ⟨by omega, by omega, by first | omega | (simp; done) | (simp; omega)⟩) ?_
              refine f_only0 17 rfl (by decide +kernel) rfl rfl (o_storeA Try.sizeOf41 rfl rfl rfl rfl (st_room (by rw [List.length_set]; omega)) (((l2.set (jj + 1) y).set jj x).flatMap tcs ++ sp) (setMany_flat tcs_len sp _ _ _ (by first | omega | (simp only [List.length_set]; omega))) ⟨(by repeat (first | exact Sub.nil | refine Sub.pick ?_ | refine Sub.castO rfl ?_ | refine Sub.skip ?_)), ?_⟩)
              refine f_over (by decide +kernel) ?_
              refine f_bn ?_
              refine f_tn (kh8 _ _ ?_)
              clear kh8
              refine f_region ?_
              refine f_stepP rfl rfl rfl (o_move rfl) ?_
              refine f_stepP rfl rfl rfl (o_sub rfl rfl _ (show IntKind.i64.wrap (((jj + 1 : Nat) : Int) - 1) = (jj : Int) from by rw [wrap_i64 (by omega)]; omega)) ?_
              refine f_stepP rfl rfl rfl (o_assign rfl) ?_
              refine f_done ?_
              refine f_tn (f_again (jj, S3, y :: S2, (l2.set (jj + 1) y).set jj x, [(b', blk (((l2.set (jj + 1) y).set jj x).flatMap tcs ++ sp) 41)]) (by first | omega | (dsimp only; omega) | (simp; omega)) ⟨by omega, by rw [hl2', set_adj (by omega)]; simp, by refine List.Perm.trans ?_ hin; simp only [List.append_assoc]; exact List.Perm.append_left S3 (List.Perm.swap y x S2), fun z hz => hy z (by simp [hz]), hI.step (lx_of_lt (by omega)), hup _ (by simp)⟩ ?_ ?_ ?_)
              · exact (by repeat (first | exact trivial | refine ⟨rfl, ?_⟩))
              · exact (by repeat (first | exact trivial | refine ⟨rfl, ?_⟩))
              · repeat (first | exact Sub.nil | refine Sub.pick ?_ | refine Sub.castO rfl ?_ | refine Sub.skip ?_)
            · skip
              refine (o_loadA (vs := tcs x) Try.isAgg41 Try.sizeOf41 rfl rfl (rdsEl (k := jj + 1) (by omega) hex)).does ⟨(by repeat (first | exact Sub.nil | refine Sub.pick ?_ | refine Sub.castO rfl ?_ | refine Sub.skip ?_)), ?_⟩
              refine f_only 9 rfl (by decide +kernel) rfl rfl rfl ((o_loadA (vs := tcs y) Try.isAgg41 Try.sizeOf41 rfl rfl (rdsEl (k := jj) (by omega) hey)).does ⟨(by repeat (first | exact Sub.nil | refine Sub.pick ?_ | refine Sub.castO rfl ?_ | refine Sub.skip ?_)), ?_⟩)
              refine f_take 14 rfl (by decide +kernel) rfl rfl rfl (by repeat (first | exact Sub.nil | refine Sub.pick ?_ | refine Sub.castO rfl ?_ | refine Sub.skip ?_)) (o_idx sl36 rfl rfl ((jj + 1) * 3) ⟨by omega, by omega, by first | omega | (simp; done) | (simp; omega)⟩) ?_
              refine f_only0 15 rfl (by decide +kernel) rfl rfl (o_storeA Try.sizeOf41 rfl rfl rfl rfl (st_room (by omega)) ((l2.set (jj + 1) y).flatMap tcs ++ sp) (setMany_flat tcs_len sp _ _ _ (by first | omega | (simp only [List.length_set]; omega))) ⟨(by repeat (first | exact Sub.nil | refine Sub.pick ?_ | refine Sub.castO rfl ?_ | refine Sub.skip ?_)), ?_⟩)
              refine f_take 16 rfl (by decide +kernel) rfl rfl rfl (by repeat (first | exact Sub.nil | refine Sub.pick ?_ | refine Sub.castO rfl ?_ | refine Sub.skip ?_)) (o_idx sl36 rfl rfl (jj * 3) ⟨by omega, by omega, by first | omega | (simp; done) | (simp; omega)⟩) ?_
              refine f_only0 17 rfl (by decide +kernel) rfl rfl (o_storeA Try.sizeOf41 rfl rfl rfl rfl (st_room (by rw [List.length_set]; omega)) (((l2.set (jj + 1) y).set jj x).flatMap tcs ++ sp) (setMany_flat tcs_len sp _ _ _ (by first | omega | (simp only [List.length_set]; omega))) ⟨(by repeat (first | exact Sub.nil | refine Sub.pick ?_ | refine Sub.castO rfl ?_ | refine Sub.skip ?_)), ?_⟩)
              refine f_over (by decide +kernel) ?_
              refine f_bn ?_
              refine f_tn (kh8 _ _ ?_)
              clear kh8
              refine f_region ?_
              refine f_stepP rfl rfl rfl (o_move rfl) ?_
              refine f_stepP rfl rfl rfl (o_sub rfl rfl _ (show IntKind.i64.wrap (((jj + 1 : Nat) : Int) - 1) = (jj : Int) from by rw [wrap_i64 (by omega)]; omega)) ?_
              refine f_stepP rfl rfl rfl (o_assign rfl) ?_
              refine f_done ?_
              refine f_tn (f_again (jj, S3, y :: S2, (l2.set (jj + 1) y).set jj x, [(b', blk (((l2.set (jj + 1) y).set jj x).flatMap tcs ++ sp) 41)]) (by first | omega | (dsimp only; omega) | (simp; omega)) ⟨by omega, by rw [hl2', set_adj (by omega)]; simp, by refine List.Perm.trans ?_ hin; simp only [List.append_assoc]; exact List.Perm.append_left S3 (List.Perm.swap y x S2), fun z hz => hy z (by simp [hz]), hI.step (lx_of_lt (by omega)), hup _ (by simp)⟩ ?_ ?_ ?_)
              · exact (by repeat (first | exact trivial | refine ⟨rfl, ?_⟩))
              · exact (by repeat (first | exact trivial | refine ⟨rfl, ?_⟩))
              · repeat (first | exact Sub.nil | refine Sub.pick ?_ | refine Sub.castO rfl ?_ | refine Sub.skip ?_)
          · skip
            have hdone : ∀ z ∈ S3 ++ [y], lx z x := hI.stop (lx_of_nlt (by omega) (hy y (by simp)))
            refine f_exit ?_
            refine f_te ?_
            clear kh6
            refine f_te ?_
            refine f_be ?_
            refine f_bn ?_
            refine f_tn (kh4 _ _ ?_)
            clear kh4
            refine f_region ?_
            refine f_stepP rfl rfl rfl (o_move rfl) ?_
            refine f_stepP rfl rfl rfl (o_add rfl rfl _ (show IntKind.i64.wrap (((a + q : Nat) : Int) + 1) = ((a + (q + 1) : Nat) : Int) from by rw [wrap_i64 (by omega)]; omega)) ?_
            refine f_stepP rfl rfl rfl (o_assign rfl) ?_
            refine f_done ?_
            refine f_tn (f_again (q + 1, (S3 ++ [y]) ++ x :: S2, l2, [(b', blk (l2.flatMap tcs ++ sp) 41)]) (by first | omega | (dsimp only; omega) | (simp; omega)) ⟨by omega, .inl (by omega), by rw [hl2]; simp, by rw [List.take_succ_eq_append_getElem hqd, hx]; exact hin, hI.done hdone, ho2⟩ ?_ ?_ ?_)
            · exact (by repeat (first | exact trivial | refine ⟨rfl, ?_⟩))
            · exact (by repeat (first | exact trivial | refine ⟨rfl, ?_⟩))
            · repeat (first | exact Sub.nil | refine Sub.pick ?_ | refine Sub.castO rfl ?_ | refine Sub.skip ?_)
        · skip
          obtain rfl : S1 = [] := by cases S1 with | nil => rfl | cons _ _ => simp at hj; omega
          have hdone : ∀ z ∈ ([] : List TT), lx z x := by simp
          refine f_takeN 4 rfl (by decide +kernel) rfl rfl rfl rfl rfl rfl (by repeat (first | exact Sub.nil | refine Sub.pick ?_ | refine Sub.castO rfl ?_ | refine Sub.skip ?_)) ?_
          refine f_takeN 5 rfl (by decide +kernel) rfl rfl rfl rfl rfl rfl (by repeat (first | exact Sub.nil | refine Sub.pick ?_ | refine Sub.castO rfl ?_ | refine Sub.skip ?_)) ?_
          refine f_takeN 6 rfl (by decide +kernel) rfl rfl rfl rfl rfl rfl (by repeat (first | exact Sub.nil | refine Sub.pick ?_ | refine Sub.castO rfl ?_ | refine Sub.skip ?_)) ?_
          refine f_takeN 7 rfl (by decide +kernel) rfl rfl rfl rfl rfl rfl (by repeat (first | exact Sub.nil | refine Sub.pick ?_ | refine Sub.castO rfl ?_ | refine Sub.skip ?_)) ?_
          refine f_takeN 8 rfl (by decide +kernel) rfl rfl rfl rfl rfl rfl (by repeat (first | exact Sub.nil | refine Sub.pick ?_ | refine Sub.castO rfl ?_ | refine Sub.skip ?_)) ?_
          refine f_takeN 9 rfl (by decide +kernel) rfl rfl rfl rfl rfl rfl (by repeat (first | exact Sub.nil | refine Sub.pick ?_ | refine Sub.castO rfl ?_ | refine Sub.skip ?_)) ?_
          refine f_takeN 10 rfl (by decide +kernel) rfl rfl rfl rfl rfl rfl (by repeat (first | exact Sub.nil | refine Sub.pick ?_ | refine Sub.castO rfl ?_ | refine Sub.skip ?_)) ?_
          refine f_takeN 11 rfl (by decide +kernel) rfl rfl rfl rfl rfl rfl (by repeat (first | exact Sub.nil | refine Sub.pick ?_ | refine Sub.castO rfl ?_ | refine Sub.skip ?_)) ?_
          refine f_takeN 12 rfl (by decide +kernel) rfl rfl rfl rfl rfl rfl (by repeat (first | exact Sub.nil | refine Sub.pick ?_ | refine Sub.castO rfl ?_ | refine Sub.skip ?_)) ?_
          refine f_takeN 13 rfl (by decide +kernel) rfl rfl rfl rfl rfl rfl (by repeat (first | exact Sub.nil | refine Sub.pick ?_ | refine Sub.castO rfl ?_ | refine Sub.skip ?_)) ?_
          refine f_takeN 14 rfl (by decide +kernel) rfl rfl rfl rfl rfl rfl (by repeat (first | exact Sub.nil | refine Sub.pick ?_ | refine Sub.castO rfl ?_ | refine Sub.skip ?_)) ?_
          refine f_takeN 15 rfl (by decide +kernel) rfl rfl rfl rfl rfl rfl (by repeat (first | exact Sub.nil | refine Sub.pick ?_ | refine Sub.castO rfl ?_ | refine Sub.skip ?_)) ?_
          refine f_take 16 rfl (by decide +kernel) rfl rfl rfl (by repeat (first | exact Sub.nil | refine Sub.pick ?_ | refine Sub.castO rfl ?_ | refine Sub.skip ?_)) (o_pickF rfl rfl) ?_
          refine f_over (by decide +kernel) ?_
          refine f_tn (kh7 _ _ ?_)
          clear kh7
          refine f_condF rfl ?_
          refine f_exit ?_
          refine f_te ?_
          clear kh6
          refine f_te ?_
          refine f_be ?_
          refine f_bn ?_
          refine f_tn (kh4 _ _ ?_)
          clear kh4
          refine f_region ?_
          refine f_stepP rfl rfl rfl (o_move rfl) ?_
          refine f_stepP rfl rfl rfl (o_add rfl rfl _ (show IntKind.i64.wrap (((a + q : Nat) : Int) + 1) = ((a + (q + 1) : Nat) : Int) from by rw [wrap_i64 (by omega)]; omega)) ?_
          refine f_stepP rfl rfl rfl (o_assign rfl) ?_
          refine f_done ?_
          refine f_tn (f_again (q + 1, [] ++ x :: S2, l2, [(b', blk (l2.flatMap tcs ++ sp) 41)]) (by first | omega | (dsimp only; omega) | (simp; omega)) ⟨by omega, .inl (by omega), by rw [hl2]; simp, by rw [List.take_succ_eq_append_getElem hqd, hx]; exact hin, hI.done hdone, ho2⟩ ?_ ?_ ?_)
          · exact (by repeat (first | exact trivial | refine ⟨rfl, ?_⟩))
          · exact (by repeat (first | exact trivial | refine ⟨rfl, ?_⟩))
          · repeat (first | exact Sub.nil | refine Sub.pick ?_ | refine Sub.castO rfl ?_ | refine Sub.skip ?_)
    · skip
      refine f_exit ?_
      refine f_te ?_
      clear kh2
      refine f_te ?_
      refine f_be ?_
      have hDt : D.take q = D := by rcases hqD with h | h; exact List.take_of_length_le (by omega); subst h; simp
      have hDd : D.drop q = [] := by rcases hqD with h | h; exact List.drop_of_length_le (by omega); subst h; simp
      rw [hDt] at hS
      rw [hDd, List.nil_append] at hl1
      have hsr := Srt.of_split (P := P) (R := R) hS hSs
      rw [← hl1, ← hl, hP, hD, show a + (b - a) = b by omega] at hsr
      exact f_fin0n [m1] Try.results63 (by repeat (first | exact Sub.nil | refine Sub.pick ?_ | refine Sub.castO rfl ?_)) ⟨l1, m1, rfl, rfl, hsr, ho1⟩

end Go.Proofs.Ytbkneamjpiiepaa
