import Derived.Test.YtkmkakpadgljeaaAll4
import Derived.Test.YtkmkakpadgljeaaAll2

/- package cell: looked, cut, chosen, Inner, Between, Outer. -/
namespace Go.Proofs.Ytkmkakpadgljeaa
open Go Go.RowKit Fly
set_option linter.unusedVariables false
set_option linter.unusedSimpArgs false


theorem Ro.held {w w' : World} {A : Option Addr} {cs : List Value} (h : Ro (Fr w []) w A cs) (hs : ∀ k, Fr w [] k → w'.heap[k]? = w.heap[k]?) : Ro (Fr w' []) w' A cs := fun hne => by
  obtain ⟨b, off, rfl, hS, hc⟩ := h hne
  have hs' := hs b hS
  refine ⟨b, off, rfl, ⟨?_, by simp⟩, hc.same hs'⟩
  rcases Nat.lt_or_ge b w'.heap.size with h' | h'
  · exact h'
  · rw [Array.getElem?_eq_none h', Array.getElem?_eq_getElem hS.1] at hs'; cases hs'
/-- An arc inside a cell; one whose ends are of unlike cells; one between children. -/
def inP (L : List Int) (c : Int) (a : Arc) : Bool := decide (L.getD a.src.toNat 0 = c) && decide (L.getD a.dst.toNat 0 = c)
def unP (L : List Int) (a : Arc) : Bool := decide (L.getD a.src.toNat 0 ≠ L.getD a.dst.toNat 0)
def btP (L B : List Int) (c : Int) (a : Arc) : Bool := inP L c a && unP B a
def bwE (N : Int) (l : List Arc) (bs : List Int) (L : List (List Int)) (q c : Int) : Int := if clE N l bs L q c ≠ 0 then clE N l bs L q c else if q = 1 then 111 else 0
theorem idxs_len_leC {α : Type} (p : α → Bool) (l : List α) : (idxs p l).length ≤ l.length := by
  unfold idxs; rw [List.length_map]; exact Nat.le_trans (List.length_filter_le _ _) (by simp)
theorem getD_at {L : List Int} {i : Nat} (h : i < L.length) : L.getD i 0 = L[i] := by simp [List.getD_eq_getElem?_getD, h]
theorem idxs_congrC {α : Type} {p q : α → Bool} {l : List α} (h : ∀ i (hi : i < l.length), p l[i] = q l[i]) : idxs p l = idxs q l := by
  have key : ∀ k, k ≤ l.length → idxs p (l.take k) = idxs q (l.take k) := fun k => by
    induction k with
    | zero => intro _; simp [idxs]
    | succ k ih => intro hk; rw [idxs_succ (by omega), idxs_succ (by omega), ih (by omega), h k (by omega)]
  have := key l.length (Nat.le_refl _)
  rwa [List.take_length] at this

set_option maxRecDepth 100000 in
set_option maxHeartbeats 4000000 in
theorem cut_spec (A : Option Addr) (len cap : Nat) (w : World) (h : len ≤ cap) (hm : cap ≤ 9223372036854775807) (hA : A = none → len = 0) :
    Meets Try.prog 34 [.slice A len cap] w [] (fun u m => u = .slice A len len ∧ m = []) := by
 refine f_enter Try.func34 rfl Try.ntmps34 rfl Owns.nil ?_
 refine f_seq fun K1 kh1 => ?_
 refine f_region ?_
 refine f_stepP rfl rfl rfl (o_assign rfl) ?_
 refine f_done ?_
 refine f_tn (kh1 _ _ ?_)
 clear kh1
 refine f_seq fun K2 kh2 => ?_
 refine f_region ?_
 refine f_stepP rfl rfl rfl (o_move rfl) ?_
 refine f_stepP rfl rfl rfl (o_move rfl) ?_
 refine f_stepP rfl rfl rfl (o_len sl25 rfl) ?_
 refine f_stepP rfl rfl rfl (o_move rfl) ?_
 refine f_stepP rfl rfl rfl (o_len sl25 rfl) ?_
 refine f_stepP rfl rfl rfl (o_slice sl25 rfl rfl rfl rfl (fun _ => rfl) 0 len len (.inl ⟨rfl, rfl⟩) (.inr ⟨_, _, rfl, by omega⟩) (.inr ⟨_, _, rfl, by omega⟩) ⟨by omega, by omega, by omega⟩ (.slice A len len) (by rw [Nat.sub_zero]; congr 1; split; rfl; cases A with | none => rfl | some x => obtain ⟨p, q, r⟩ := x; cases r <;> simp [Addr.add])) ?_
 refine f_stepP rfl rfl rfl (o_assign rfl) ?_
 refine f_done ?_
 refine f_tn (kh2 _ _ ?_)
 clear kh2
 refine f_ret ?_
 exact f_fin1 [] Try.results34 rfl Sub.nil ⟨rfl, rfl⟩

set_option maxRecDepth 100000 in
set_option maxHeartbeats 4000000 in
theorem clooked_spec (N : Int) (A : Option Addr) (l : List Arc) (cap : Nat) (Ab : Option Addr) (bs : List Int) (cb : Nat) (Ac : Option Addr) (R : List Row) (cc : Nat) (q c : Int) (w : World) (hr : Ro (Fr w []) w A (l.flatMap arcCs)) (hl : l.length ≤ 9223372036854775807) (hN : I64 N) (hok : ∀ x ∈ l, ArcOk x) (hn : NestRo (Fr w []) w Ab bs Ac R) :
    Meets Try.prog 32 [.agg #[.int .i64 N, .slice A l.length cap], .agg #[.slice Ab bs.length cb, .slice Ac R.length cc], .int .i64 q, .int .i64 c] w [] (fun u m => ∃ r : Row, u = .tuple #[rowV r, .int .i64 (clE N l bs (rowsL R) q c)] ∧ m = [] ∧ (clE N l bs (rowsL R) q c ≠ 0 → r = (none, [], 0)) ∧ (clE N l bs (rowsL R) q c = 0 → R[(q - 1).toNat]? = some r)) := by
 refine f_enter Try.func32 rfl Try.ntmps32 rfl Owns.nil ?_
 refine f_seq fun K1 kh1 => ?_
 refine f_region ?_
 refine f_step rfl rfl rfl (o_box rfl rfl fun b4 => ?_)
 refine f_step rfl rfl rfl (o_box rfl rfl fun b5 => ?_)
 refine f_stepP rfl rfl rfl (o_assign rfl) ?_
 refine f_stepP rfl rfl rfl (o_assign rfl) ?_
 refine f_done ?_
 refine f_tn (kh1 _ _ ?_)
 clear kh1
 refine f_seq fun K2 kh2 => ?_
 refine f_seq fun K3 kh3 => ?_
 refine f_region ?_
 refine f_stepP rfl rfl rfl (o_loadA (vs := [_, _]) Try.isAgg24 Try.sizeOf24 rfl rfl ⟨(rdA rfl), (rdA rfl), trivial⟩) ?_
 refine f_stepP rfl rfl rfl (o_loadA (vs := [_, _]) Try.isAgg28 Try.sizeOf28 rfl rfl ⟨(rdA rfl), (rdA rfl), trivial⟩) ?_
 refine f_stepP rfl rfl rfl (o_move rfl) ?_
 refine f_stepP rfl rfl rfl (o_move rfl) ?_
 refine f_step rfl rfl rfl (o_call Try.call52 rfl (fun w_ hp_ => NMembers_spec N A l cap Ab bs cb Ac R cc q c w_ (hr.up0 hp_) hl hN hok (hn.up0 hp_)) ?_)
 rintro _ _ ⟨M_, AM, cM, mM, rfl, rfl, hoM, hM1, hM0⟩
 dsimp only [List.cons_append, List.nil_append]
 refine f_stepP rfl rfl rfl (o_move rfl) ?_
 refine f_stepP rfl rfl rfl (o_extract rfl rfl) ?_
 refine f_stepP rfl rfl rfl (o_extract rfl rfl) ?_
 refine f_stepP rfl rfl rfl (o_assign rfl) ?_
 refine f_stepP rfl rfl rfl (o_assign rfl) ?_
 refine f_done ?_
 refine f_tn (kh3 _ _ ?_)
 clear kh3
 refine f_seq fun K4 kh4 => ?_
 refine f_region ?_
 refine f_stepP rfl rfl rfl (o_move rfl) ?_
 refine f_stepP rfl rfl rfl (o_neq rfl rfl) ?_
 refine f_done ?_
 refine f_tn (kh4 _ _ ?_)
 clear kh4
 refine f_cond rfl (fun c21 => ?_) (fun c21 => ?_)
 ·
  refine f_seq fun K5 kh5 => ?_
  refine f_region ?_
  refine f_stepP rfl rfl rfl (o_move rfl) ?_
  refine f_stepP rfl rfl rfl (o_assign rfl) ?_
  refine f_stepP rfl rfl rfl (o_assign rfl) ?_
  refine f_done ?_
  refine f_tn (kh5 _ _ ?_)
  clear kh5
  refine f_ret ?_
  refine f_tr ?_
  exact f_fin2 [] Try.results32 rfl rfl Sub.nil ⟨(none, [], 0), rfl, rfl, fun _ => rfl, fun h => absurd h (by simpa using c21)⟩
 ·
  have hcz : clE N l bs (rowsL R) q c = 0 := by simpa using c21
  obtain ⟨n, k, j, hNn, hNo, hqk, hkb, hcj, hjm⟩ := clE_zero hcz
  have hRl := hNo.len
  rw [rowsL_len] at hRl
  have hmany := hNo.many
  have hkR : k < R.length := by omega
  obtain ⟨b0, o0, hA0, hS0, hc0⟩ := hn.c (map_ne hkR)
  refine f_skip ?_
  refine f_tn (kh2 _ _ ?_)
  clear kh2
  refine f_seq fun K6 kh6 => ?_
  refine f_region ?_
  refine f_stepP rfl rfl rfl (o_field fa28_1 rfl) ?_
  refine f_stepP rfl rfl rfl (o_load Try.isAgg26 rfl (v := .slice (some ⟨b0, o0, none⟩) R.length cc) (rdA (by rw [← hA0]; rfl))) ?_
  refine f_stepP rfl rfl rfl (o_move rfl) ?_
  refine f_stepP rfl rfl rfl (o_sub rfl rfl _ (Eq.trans (wrap_i64 (by omega)) (show _ = (k : Int) by omega))) ?_
  refine f_stepP rfl rfl rfl (o_idx sl26 rfl rfl (o0 + k) ⟨by omega, by omega, by first | omega | (simp; done) | (simp; omega)⟩) ?_
  refine f_stepP rfl rfl rfl (o_load Try.isAgg25 rfl (roOne (enc := rowV) hS0 hc0 hkR)) ?_
  refine f_stepP rfl rfl rfl (o_assign rfl) ?_
  refine f_stepP rfl rfl rfl (o_assign rfl) ?_
  refine f_done ?_
  refine f_tn (kh6 _ _ ?_)
  clear kh6
  refine f_ret ?_
  exact f_fin2 [] Try.results32 rfl rfl Sub.nil ⟨_, by rw [hcz], rfl, fun h => absurd hcz h, fun _ => by rw [show (q - 1).toNat = k by omega]; exact List.getElem?_eq_getElem hkR⟩

set_option maxRecDepth 100000 in
set_option maxHeartbeats 4000000 in
theorem chosen_spec (N : Int) (A : Option Addr) (l : List Arc) (cap : Nat) (p : Arc → Bool) (fi : FuncId) (capi : List Value) (w : World) (hr : Ro (Fr w []) w A (l.flatMap arcCs)) (hl : l.length ≤ 8192) (hci : ∀ args w, (callFunc fi args).run Try.prog w = .ok (.enter fi args) w)
    (his : ∀ w', (∀ k, Fr w [] k → w'.heap[k]? = w.heap[k]?) → ∀ i (hi : i < l.length), Meets Try.prog fi ([.agg (arcCs l[i]).toArray] ++ capi) w' [] (fun u m => u = .bool (p l[i]) ∧ m = [])) :
    Meets Try.prog 28 [.agg #[.int .i64 N, .slice A l.length cap], .func (.func fi) #[] capi.toArray] w [] (fun u own' => ∃ A' c' m', u = .slice A' (idxs p l).length (idxs p l).length ∧ own' = [m'] ∧ Own 3 1 (.slice A' (idxs p l).length c') (idxs p l).length (ints (idxs p l)) m') := by
 refine f_enter Try.func28 rfl Try.ntmps28 rfl Owns.nil ?_
 refine f_seq fun K1 kh1 => ?_
 refine f_region ?_
 refine f_step rfl rfl rfl (o_box rfl rfl fun b2 => ?_)
 refine f_stepP rfl rfl rfl (o_assign rfl) ?_
 refine f_done ?_
 refine f_tn (kh1 _ _ ?_)
 clear kh1
 refine f_seq fun K2 kh2 => ?_
 refine f_region ?_
 refine f_stepP rfl rfl rfl (o_assign rfl) ?_
 refine f_done ?_
 refine f_tn (kh2 _ _ ?_)
 clear kh2
 refine f_seq fun K3 kh3 => ?_
 refine f_seq fun K4 kh4 => ?_
 refine f_region ?_
 refine f_stepP rfl rfl rfl (o_field fa24_1 rfl) ?_
 refine f_stepP rfl rfl rfl (o_load Try.isAgg22 rfl (rdA rfl)) ?_
 refine f_stepP rfl rfl rfl (o_len sl22 rfl) ?_
 refine f_stepP rfl rfl rfl (o_move rfl) ?_
 refine f_done ?_
 refine f_tn (kh4 _ _ ?_)
 clear kh4
 refine f_block ?_
 refine f_loop (α := Nat × Value × Seg) [1, 9, 10] (fun ⟨k, ov, om⟩ => [(11, .int .i64 (k : Int)), (5, ov)]) (fun ⟨k, ov, om⟩ => [om]) (fun ⟨k, ov, om⟩ => k ≤ l.length ∧ Own 3 1 ov (idxs p (l.take k)).length (ints (idxs p (l.take k))) om) (fun ⟨k, ov, om⟩ => l.length - k) (0, .slice none 0 0, []) ?_ ?_ ?_ ?_
 · exact (by repeat (first | exact trivial | refine ⟨rfl, ?_⟩))
 · repeat (first | exact Sub.nil | refine Sub.pick ?_ | refine Sub.castO rfl ?_ | refine Sub.skip ?_)
 · exact ⟨Nat.zero_le _, Own.nil _ _⟩
 ·
  rintro ⟨k, ov, om⟩ ⟨hkl, hO⟩
  have hil := idxs_len_leC p (l.take k)
  rw [List.length_take] at hil
  obtain ⟨Ao, co, rfl, hco⟩ := hO.val
  refine f_seq fun K5 kh5 => ?_
  refine f_region ?_
  refine f_stepP rfl rfl rfl (o_lss rfl rfl) ?_
  refine f_done ?_
  refine f_tn (kh5 _ _ ?_)
  clear kh5
  refine f_seq fun K6 kh6 => ?_
  refine f_cond rfl (fun c12 => ?_) (fun c12 => ?_)
  ·
   have hk : k < l.length := by omega
   obtain ⟨bl, off, rfl, hS, hc⟩ := hr (flat_ne arcCs arcCs_len (by omega) hk)
   refine f_skip ?_
   refine f_tn (kh6 _ _ ?_)
   clear kh6
   refine f_seq fun K7 kh7 => ?_
   refine f_block ?_
   refine f_seq fun K8 kh8 => ?_
   refine f_region ?_
   refine f_stepP rfl rfl rfl (o_move rfl) ?_
   refine f_stepP rfl rfl rfl (o_idx sl22 rfl rfl (off + k * 3) ⟨by omega, by omega, by first | omega | (simp; done) | (simp; omega)⟩) ?_
   refine f_stepP rfl rfl rfl (o_loadA (vs := arcCs l[k]) Try.isAgg39 Try.sizeOf39 rfl rfl (roElem arcCs_len hS hc hk)) ?_
   refine f_step rfl rfl rfl (o_alloc Try.zeroValue39 rfl fun b7 => ?_)
   refine f_stepP rfl rfl rfl (o_assign rfl) ?_
   refine f_step0 rfl rfl (o_storeA Try.sizeOf39 rfl rfl rfl rfl (by first | exact Nat.le_of_ble_eq_true rfl | (simp; done) | (simp; omega)) (arcCs l[k]) rfl ?_)
   refine f_done ?_
   refine f_tn (kh8 _ _ ?_)
   clear kh8
   refine f_seq fun K9 kh9 => ?_
   refine f_region ?_
   refine f_stepP rfl rfl rfl (o_move rfl) ?_
   refine f_stepP rfl rfl rfl (o_loadA (vs := [_, _, _]) Try.isAgg39 Try.sizeOf39 rfl rfl ⟨(rdA rfl), (rdA rfl), (rdA rfl), trivial⟩) ?_
   refine f_step rfl rfl rfl (o_callV [] _ hci rfl rfl Sub.refl (fun w_ hp_ => (by have h := his w_ (fun k hk => hp_.same k hk) k hk; exact h)) ?_)
   rintro _ _ ⟨rfl, rfl⟩
   dsimp only [List.cons_append, List.nil_append]
   refine f_done ?_
   refine f_tn (kh9 _ _ ?_)
   clear kh9
   refine f_condB rfl (fun c18 => ?_) (fun c18 => ?_)
   ·
    refine f_region ?_
    refine f_stepP rfl rfl rfl (o_move rfl) ?_
    refine f_stepP rfl rfl rfl (o_move rfl) ?_
    refine f_step rfl rfl rfl (o_slice1 el25 (by omega) rfl rfl rfl fun b21 => ?_)
    refine f_step rfl rfl rfl (o_append el25 rfl rfl hO (ys := [.int .i64 (k : Int)]) ⟨(rdA rfl), trivial⟩ rfl rfl (by omega) (by omega) fun v22 m22 o22 => ?_)
    refine f_stepP rfl rfl rfl (o_assign rfl) ?_
    refine f_done ?_
    refine f_bn ?_
    refine f_tn (kh7 _ _ ?_)
    clear kh7
    refine f_region ?_
    refine f_stepP rfl rfl rfl (o_add rfl rfl _ (wrap_i64 (by omega))) ?_
    refine f_stepP rfl rfl rfl (o_move rfl) ?_
    refine f_done ?_
    refine f_tn (f_again (k + 1, v22, m22) (by first | omega | (dsimp only; omega) | (simp; omega)) ⟨by omega, by rw [idxs_yes hk c18, List.length_append, ints_append]; exact o22⟩ ?_ ?_ ?_)
    · exact (by repeat (first | exact trivial | refine ⟨rfl, ?_⟩))
    · exact (by repeat (first | exact trivial | refine ⟨rfl, ?_⟩))
    · repeat (first | exact Sub.nil | refine Sub.pick ?_ | refine Sub.castO rfl ?_ | refine Sub.skip ?_)
   ·
    refine f_skip ?_
    refine f_bn ?_
    refine f_tn (kh7 _ _ ?_)
    clear kh7
    refine f_region ?_
    refine f_stepP rfl rfl rfl (o_add rfl rfl _ (wrap_i64 (by omega))) ?_
    refine f_stepP rfl rfl rfl (o_move rfl) ?_
    refine f_done ?_
    refine f_tn (f_again (k + 1, .slice Ao (idxs p (l.take k)).length co, om) (by first | omega | (dsimp only; omega) | (simp; omega)) ⟨by omega, by rw [idxs_no hk (by simpa using c18)]; exact hO⟩ ?_ ?_ ?_)
    · exact (by repeat (first | exact trivial | refine ⟨rfl, ?_⟩))
    · exact (by repeat (first | exact trivial | refine ⟨rfl, ?_⟩))
    · repeat (first | exact Sub.nil | refine Sub.pick ?_ | refine Sub.castO rfl ?_ | refine Sub.skip ?_)
  ·
   obtain rfl : k = l.length := by omega
   rw [List.take_length] at hO hco hil
   refine f_reC 5 rfl (v := .slice Ao (idxs p l).length co) (by rw [List.take_length]) ?_
   refine f_exit ?_
   refine f_te ?_
   clear kh6
   refine f_te ?_
   refine f_be ?_
   refine f_tn (kh3 _ _ ?_)
   clear kh3
   refine f_seq fun K10 kh10 => ?_
   refine f_region ?_
   refine f_stepP rfl rfl rfl (o_move rfl) ?_
   refine f_step rfl rfl rfl (o_call Try.call34 rfl (fun w_ hp_ => cut_spec Ao (idxs p l).length co w_ hco.1 hco.2 (own_none hO)) ?_)
   rintro _ _ ⟨rfl, rfl⟩
   dsimp only [List.cons_append, List.nil_append]
   refine f_stepP rfl rfl rfl (o_assign rfl) ?_
   refine f_done ?_
   refine f_tn (kh10 _ _ ?_)
   clear kh10
   refine f_ret ?_
   exact f_fin1 [om] Try.results28 rfl (by repeat (first | exact Sub.nil | refine Sub.pick ?_ | refine Sub.castO rfl ?_ | refine Sub.skip ?_)) ⟨Ao, co, om, rfl, rfl, hO⟩

set_option maxRecDepth 100000 in
set_option maxHeartbeats 4000000 in
theorem Inner1_spec (a : Arc) (b1 b2 : Nat) (B : Option Addr) (L : List Int) (cb : Nat) (c : Int) (w : World) (h1 : Ro (Fr w []) w (some ⟨b1, 0, none⟩) [.slice B L.length cb]) (h2 : Ro (Fr w []) w (some ⟨b2, 0, none⟩) [.int .i64 c]) (hL : Ro (Fr w []) w B (ints L)) (hs : 0 ≤ a.src ∧ a.src < (L.length : Int)) (hd : 0 ≤ a.dst ∧ a.dst < (L.length : Int)) :
    Meets Try.prog 45 ([.agg (arcCs a).toArray] ++ [.pointer (some ⟨b1, 0, none⟩), .pointer (some ⟨b2, 0, none⟩)]) w [] (fun u m => u = .bool (inP L c a) ∧ m = []) := by
 have hsN : a.src.toNat < L.length := by omega
 have hdN : a.dst.toNat < L.length := by omega
 obtain ⟨b1', o1', e1', hS1, hc1⟩ := h1 (by simp)
 obtain ⟨rfl, rfl⟩ : b1 = b1' ∧ 0 = o1' := by cases e1'; exact ⟨rfl, rfl⟩
 obtain ⟨b2', o2', e2', hS2, hc2⟩ := h2 (by simp)
 obtain ⟨rfl, rfl⟩ : b2 = b2' ∧ 0 = o2' := by cases e2'; exact ⟨rfl, rfl⟩
 obtain ⟨br, or, rfl, hSr, hcr⟩ := hL (fun e => by have := ints_length L; rw [e] at this; simp at this; omega)
 refine f_enter Try.func45 rfl Try.ntmps45 rfl Owns.nil ?_
 refine f_seq fun K1 kh1 => ?_
 refine f_region ?_
 refine f_step rfl rfl rfl (o_box rfl rfl fun b3 => ?_)
 refine f_stepP rfl rfl rfl (o_assign rfl) ?_
 refine f_done ?_
 refine f_tn (kh1 _ _ ?_)
 clear kh1
 refine f_seq fun K2 kh2 => ?_
 refine f_regionT 16 rfl (by decide +kernel) ?_
 refine f_stillP rfl rfl rfl (o_load Try.isAgg25 rfl (rdS hS1 (hc1 0 _ rfl))) ?_
 refine f_stillP rfl rfl rfl (o_field fa39_0 rfl) ?_
 refine f_stillP rfl rfl rfl (o_load Try.isAgg3 rfl (rdA rfl)) ?_
 refine f_stillP rfl rfl rfl (o_idx sl25 rfl rfl (or + a.src.toNat) ⟨by omega, by omega, by first | omega | (simp; done) | (simp; omega)⟩) ?_
 refine f_stillP rfl rfl rfl (o_load Try.isAgg3 rfl (roOne (enc := (.int .i64 ·)) hSr hcr hsN)) ?_
 refine f_stillP rfl rfl rfl (o_load Try.isAgg3 rfl (rdS hS2 (hc2 0 _ rfl))) ?_
 refine f_stillP rfl rfl rfl (o_eql rfl rfl) ?_
 refine f_stillP rfl rfl rfl (o_move rfl) ?_
 refine f_splitS 12 rfl (fun g12 => ?_) (fun g12 => ?_)
 ·
  refine f_stillPY rfl rfl rfl rfl rfl (o_load Try.isAgg25 rfl (rdS hS1 (hc1 0 _ rfl))) ?_
  refine f_stillPY rfl rfl rfl rfl rfl (o_field fa39_1 rfl) ?_
  refine f_stillPY rfl rfl rfl rfl rfl (o_load Try.isAgg3 rfl (rdA rfl)) ?_
  refine f_stillPY rfl rfl rfl rfl rfl (o_idx sl25 rfl rfl (or + a.dst.toNat) ⟨by omega, by omega, by first | omega | (simp; done) | (simp; omega)⟩) ?_
  refine f_stillPY rfl rfl rfl rfl rfl (o_load Try.isAgg3 rfl (roOne (enc := (.int .i64 ·)) hSr hcr hdN)) ?_
  refine f_stillPY rfl rfl rfl rfl rfl (o_load Try.isAgg3 rfl (rdS hS2 (hc2 0 _ rfl))) ?_
  refine f_stillPY rfl rfl rfl rfl rfl (o_eql rfl rfl) ?_
  refine f_stillP rfl rfl rfl (o_pickT rfl rfl) ?_
  refine f_stillD (f_tail ?_)
  refine f_stepP rfl rfl rfl (o_assign rfl) ?_
  refine f_done ?_
  refine f_tn (kh2 _ _ ?_)
  clear kh2
  refine f_ret ?_
  exact f_fin1 [] Try.results45 rfl Sub.nil ⟨by unfold inP; rw [getD_at hsN, getD_at hdN, decide_eq_true g12]; rfl, rfl⟩
 ·
  refine f_stillN rfl rfl rfl rfl rfl rfl ?_
  refine f_stillN rfl rfl rfl rfl rfl rfl ?_
  refine f_stillN rfl rfl rfl rfl rfl rfl ?_
  refine f_stillN rfl rfl rfl rfl rfl rfl ?_
  refine f_stillN rfl rfl rfl rfl rfl rfl ?_
  refine f_stillN rfl rfl rfl rfl rfl rfl ?_
  refine f_stillN rfl rfl rfl rfl rfl rfl ?_
  refine f_stillP rfl rfl rfl (o_pickF rfl rfl) ?_
  refine f_stillD (f_tail ?_)
  refine f_stepP rfl rfl rfl (o_assign rfl) ?_
  refine f_done ?_
  refine f_tn (kh2 _ _ ?_)
  clear kh2
  refine f_ret ?_
  exact f_fin1 [] Try.results45 rfl Sub.nil ⟨by unfold inP; rw [getD_at hsN, getD_at hdN, decide_eq_false g12]; rfl, rfl⟩

set_option maxRecDepth 100000 in
set_option maxHeartbeats 4000000 in
theorem CInner_spec (N : Int) (A : Option Addr) (l : List Arc) (cap : Nat) (Ab : Option Addr) (bs : List Int) (cb : Nat) (Ac : Option Addr) (R : List Row) (cc : Nat) (q c : Int) (w : World) (hr : Ro (Fr w []) w A (l.flatMap arcCs)) (hl : l.length ≤ 9223372036854775807) (hN : I64 N) (hok : ∀ x ∈ l, ArcOk x) (hn : NestRo (Fr w []) w Ab bs Ac R) :
    Meets Try.prog 24 [.agg #[.int .i64 N, .slice A l.length cap], .agg #[.slice Ab bs.length cb, .slice Ac R.length cc], .int .i64 q, .int .i64 c] w [] (fun u own' => ∃ (M : List Int) (A' : Option Addr) (c2 : Nat) (m' : Seg), u = .tuple #[.slice A' M.length M.length, .int .i64 (clE N l bs (rowsL R) q c)] ∧ own' = [m'] ∧ Own 3 1 (.slice A' M.length c2) M.length (ints M) m' ∧ (clE N l bs (rowsL R) q c ≠ 0 → M = []) ∧ (clE N l bs (rowsL R) q c = 0 → M = idxs (inP ((rowsL R).getD (q.toNat - 1) []) c) l)) := by
 refine f_enter Try.func24 rfl Try.ntmps24 rfl Owns.nil ?_
 refine f_seq fun K1 kh1 => ?_
 refine f_region ?_
 refine f_step rfl rfl rfl (o_box rfl rfl fun b4 => ?_)
 refine f_step rfl rfl rfl (o_box rfl rfl fun b5 => ?_)
 refine f_step rfl rfl rfl (o_box rfl rfl fun b7 => ?_)
 refine f_stepP rfl rfl rfl (o_assign rfl) ?_
 refine f_stepP rfl rfl rfl (o_assign rfl) ?_
 refine f_done ?_
 refine f_tn (kh1 _ _ ?_)
 clear kh1
 refine f_seq fun K2 kh2 => ?_
 refine f_region ?_
 refine f_stepP rfl rfl rfl (o_loadA (vs := [_, _]) Try.isAgg24 Try.sizeOf24 rfl rfl ⟨(rdA rfl), (rdA rfl), trivial⟩) ?_
 refine f_stepP rfl rfl rfl (o_loadA (vs := [_, _]) Try.isAgg28 Try.sizeOf28 rfl rfl ⟨(rdA rfl), (rdA rfl), trivial⟩) ?_
 refine f_stepP rfl rfl rfl (o_move rfl) ?_
 refine f_stepP rfl rfl rfl (o_load Try.isAgg3 rfl (rdA rfl)) ?_
 refine f_step rfl rfl rfl (o_call Try.call32 rfl (fun w_ hp_ => clooked_spec N A l cap Ab bs cb Ac R cc q c w_ (hr.up0 hp_) hl hN hok (hn.up0 hp_)) ?_)
 rintro _ _ ⟨r, rfl, rfl, hr1, hr0⟩
 dsimp only [List.cons_append, List.nil_append]
 refine f_stepP rfl rfl rfl (o_move rfl) ?_
 refine f_stepP rfl rfl rfl (o_extract rfl rfl) ?_
 refine f_stepP rfl rfl rfl (o_extract rfl rfl) ?_
 refine f_step rfl rfl rfl (o_alloc Try.zeroValue25 rfl fun b10 => ?_)
 refine f_step0 rfl rfl (o_store Try.sizeOf25 rfl rfl rfl rfl (by first | exact Nat.le_of_ble_eq_true rfl | (simp; done) | (simp; omega)) [rowV r] rfl ?_)
 refine f_stepP rfl rfl rfl (o_assign rfl) ?_
 refine f_done ?_
 refine f_tn (kh2 _ _ ?_)
 clear kh2
 refine f_seq fun K3 kh3 => ?_
 refine f_seq fun K4 kh4 => ?_
 refine f_region ?_
 refine f_stepP rfl rfl rfl (o_move rfl) ?_
 refine f_stepP rfl rfl rfl (o_neq rfl rfl) ?_
 refine f_done ?_
 refine f_tn (kh4 _ _ ?_)
 clear kh4
 refine f_cond rfl (fun c21 => ?_) (fun c21 => ?_)
 ·
  refine f_seq fun K5 kh5 => ?_
  refine f_region ?_
  refine f_stepP rfl rfl rfl (o_move rfl) ?_
  refine f_stepP rfl rfl rfl (o_assign rfl) ?_
  refine f_stepP rfl rfl rfl (o_assign rfl) ?_
  refine f_done ?_
  refine f_tn (kh5 _ _ ?_)
  clear kh5
  refine f_ret ?_
  refine f_tr ?_
  have e : clE N l bs (rowsL R) q c = clE N l bs (rowsL R) q c := rfl
  exact f_fin2 [[]] Try.results24 rfl rfl (show Fly.Sub _ [[]] from (by repeat (first | exact Sub.nil | refine Sub.pick ?_ | refine Sub.castO rfl ?_ | refine Sub.skip ?_))) ⟨[], none, 0, [], by rw [e]; rfl, rfl, Own.nil _ _, fun _ => rfl, fun h => absurd (e.symm.trans h) (by simpa using c21)⟩
 ·
  have hcz : clE N l bs (rowsL R) q c = 0 := by simpa using c21
  obtain ⟨n, k, j, hNn, hNo, hqk, hkb, hcj, hjm⟩ := clE_zero hcz
  have hRl := hNo.len
  rw [rowsL_len] at hRl
  have hmany := hNo.many
  obtain ⟨hn1, hn2, hlen, hgd⟩ := gcheck_zero hNo.g
  have hrr := hr0 hcz
  have hrow := row_get hrr (by omega)
  rw [show q.toNat - 1 = k by omega] at hrow
  have hkl := hNo.rowlen (k := k) (by omega)
  rw [hrow] at hkl
  have hrm := hn.rows r (List.mem_of_getElem? hrr)
  refine f_skip ?_
  refine f_tn (kh3 _ _ ?_)
  clear kh3
  refine f_seq fun K6 kh6 => ?_
  refine f_region ?_
  refine f_stepP rfl rfl rfl (o_loadA (vs := [_, _]) Try.isAgg24 Try.sizeOf24 rfl rfl ⟨(rdA rfl), (rdA rfl), trivial⟩) ?_
  refine f_stepP rfl rfl rfl (o_func rfl rfl) ?_
  refine f_step rfl rfl rfl (o_call Try.call28 rfl (fun w_ hp_ => chosen_spec N A l cap (inP r.2.1 c) 45 [.pointer (some ⟨b10, 0, none⟩), .pointer (some ⟨b7, 0, none⟩)] w_ (hr.up0 hp_) hlen Try.call45 (fun w' hs i hi => Inner1_spec l[i] b10 b7 r.1 r.2.1 r.2.2 c w' (heldRo hp_ hs) (heldRo hp_ hs) (Ro.held (hrm.1.up0 hp_) hs) (by have := hgd i hi; omega) (by have := hgd i hi; omega))) ?_)
  rintro _ _ ⟨Ao, co, mo, rfl, rfl, hO⟩
  dsimp only [List.cons_append, List.nil_append]
  refine f_stepP rfl rfl rfl (o_assign rfl) ?_
  refine f_stepP rfl rfl rfl (o_assign rfl) ?_
  refine f_done ?_
  refine f_tn (kh6 _ _ ?_)
  clear kh6
  refine f_ret ?_
  have e := hcz
  exact f_fin2 [mo] Try.results24 rfl rfl (by repeat (first | exact Sub.nil | refine Sub.pick ?_ | refine Sub.castO rfl ?_ | refine Sub.skip ?_)) ⟨_, Ao, co, mo, by rw [e], rfl, hO, fun h => absurd e h, fun _ => by rw [show q.toNat - 1 = k by omega, hrow]⟩

set_option maxRecDepth 100000 in
set_option maxHeartbeats 4000000 in
theorem Outer1_spec (a : Arc) (b1 : Nat) (B : Option Addr) (L : List Int) (cb : Nat) (w : World) (h1 : Ro (Fr w []) w (some ⟨b1, 0, none⟩) [.slice B L.length cb]) (hL : Ro (Fr w []) w B (ints L)) (hs : 0 ≤ a.src ∧ a.src < (L.length : Int)) (hd : 0 ≤ a.dst ∧ a.dst < (L.length : Int)) :
    Meets Try.prog 29 ([.agg (arcCs a).toArray] ++ [.pointer (some ⟨b1, 0, none⟩)]) w [] (fun u m => u = .bool (unP L a) ∧ m = []) := by
 have hsN : a.src.toNat < L.length := by omega
 have hdN : a.dst.toNat < L.length := by omega
 obtain ⟨b1', o1', e1', hS1, hc1⟩ := h1 (by simp)
 obtain ⟨rfl, rfl⟩ : b1 = b1' ∧ 0 = o1' := by cases e1'; exact ⟨rfl, rfl⟩
 obtain ⟨br, or, rfl, hSr, hcr⟩ := hL (fun e => by have := ints_length L; rw [e] at this; simp at this; omega)
 refine f_enter Try.func29 rfl Try.ntmps29 rfl Owns.nil ?_
 refine f_seq fun K1 kh1 => ?_
 refine f_region ?_
 refine f_step rfl rfl rfl (o_box rfl rfl fun b2 => ?_)
 refine f_stepP rfl rfl rfl (o_assign rfl) ?_
 refine f_done ?_
 refine f_tn (kh1 _ _ ?_)
 clear kh1
 refine f_seq fun K2 kh2 => ?_
 refine f_regionT 11 rfl (by decide +kernel) ?_
 refine f_stillP rfl rfl rfl (o_load Try.isAgg25 rfl (rdS hS1 (hc1 0 _ rfl))) ?_
 refine f_stillP rfl rfl rfl (o_field fa39_0 rfl) ?_
 refine f_stillP rfl rfl rfl (o_load Try.isAgg3 rfl (rdA rfl)) ?_
 refine f_stillP rfl rfl rfl (o_idx sl25 rfl rfl (or + a.src.toNat) ⟨by omega, by omega, by first | omega | (simp; done) | (simp; omega)⟩) ?_
 refine f_stillP rfl rfl rfl (o_load Try.isAgg3 rfl (roOne (enc := (.int .i64 ·)) hSr hcr hsN)) ?_
 refine f_stillP rfl rfl rfl (o_load Try.isAgg25 rfl (rdS hS1 (hc1 0 _ rfl))) ?_
 refine f_stillP rfl rfl rfl (o_field fa39_1 rfl) ?_
 refine f_stillP rfl rfl rfl (o_load Try.isAgg3 rfl (rdA rfl)) ?_
 refine f_stillP rfl rfl rfl (o_idx sl25 rfl rfl (or + a.dst.toNat) ⟨by omega, by omega, by first | omega | (simp; done) | (simp; omega)⟩) ?_
 refine f_stillP rfl rfl rfl (o_load Try.isAgg3 rfl (roOne (enc := (.int .i64 ·)) hSr hcr hdN)) ?_
 refine f_stillP rfl rfl rfl (o_neq rfl rfl) ?_
 refine f_stillD (f_tail ?_)
 refine f_stepP rfl rfl rfl (o_assign rfl) ?_
 refine f_done ?_
 refine f_tn (kh2 _ _ ?_)
 clear kh2
 refine f_ret ?_
 exact f_fin1 [] Try.results29 rfl Sub.nil ⟨by unfold unP; rw [getD_at hsN, getD_at hdN], rfl⟩

set_option maxRecDepth 100000 in
set_option maxHeartbeats 4000000 in
theorem Between1_spec (a : Arc) (b1 b2 b3 : Nat) (B : Option Addr) (L : List Int) (cb : Nat) (B2 : Option Addr) (L2 : List Int) (cb2 : Nat) (c : Int) (w : World) (h1 : Ro (Fr w []) w (some ⟨b1, 0, none⟩) [.slice B L.length cb]) (h2 : Ro (Fr w []) w (some ⟨b2, 0, none⟩) [.int .i64 c]) (h3 : Ro (Fr w []) w (some ⟨b3, 0, none⟩) [.slice B2 L2.length cb2]) (hL : Ro (Fr w []) w B (ints L)) (hL2 : Ro (Fr w []) w B2 (ints L2)) (hLL : L2.length = L.length) (hs : 0 ≤ a.src ∧ a.src < (L.length : Int)) (hd : 0 ≤ a.dst ∧ a.dst < (L.length : Int)) :
    Meets Try.prog 46 ([.agg (arcCs a).toArray] ++ [.pointer (some ⟨b1, 0, none⟩), .pointer (some ⟨b2, 0, none⟩), .pointer (some ⟨b3, 0, none⟩)]) w [] (fun u m => u = .bool (btP L L2 c a) ∧ m = []) := by
 have hsN : a.src.toNat < L.length := by omega
 have hdN : a.dst.toNat < L.length := by omega
 have hsN2 : a.src.toNat < L2.length := by omega
 have hdN2 : a.dst.toNat < L2.length := by omega
 obtain ⟨b1', o1', e1', hS1, hc1⟩ := h1 (by simp)
 obtain ⟨rfl, rfl⟩ : b1 = b1' ∧ 0 = o1' := by cases e1'; exact ⟨rfl, rfl⟩
 obtain ⟨b2', o2', e2', hS2, hc2⟩ := h2 (by simp)
 obtain ⟨rfl, rfl⟩ : b2 = b2' ∧ 0 = o2' := by cases e2'; exact ⟨rfl, rfl⟩
 obtain ⟨b3', o3', e3', hS3, hc3⟩ := h3 (by simp)
 obtain ⟨rfl, rfl⟩ : b3 = b3' ∧ 0 = o3' := by cases e3'; exact ⟨rfl, rfl⟩
 obtain ⟨br, or, rfl, hSr, hcr⟩ := hL (fun e => by have := ints_length L; rw [e] at this; simp at this; omega)
 obtain ⟨br2, or2, rfl, hSr2, hcr2⟩ := hL2 (fun e => by have := ints_length L2; rw [e] at this; simp at this; omega)
 refine f_enter Try.func46 rfl Try.ntmps46 rfl Owns.nil ?_
 refine f_seq fun K1 kh1 => ?_
 refine f_region ?_
 refine f_step rfl rfl rfl (o_box rfl rfl fun b4 => ?_)
 refine f_stepP rfl rfl rfl (o_assign rfl) ?_
 refine f_done ?_
 refine f_tn (kh1 _ _ ?_)
 clear kh1
 refine f_seq fun K2 kh2 => ?_
 refine f_regionT 29 rfl (by decide +kernel) ?_
 refine f_stillP rfl rfl rfl (o_load Try.isAgg25 rfl (rdS hS1 (hc1 0 _ rfl))) ?_
 refine f_stillP rfl rfl rfl (o_field fa39_0 rfl) ?_
 refine f_stillP rfl rfl rfl (o_load Try.isAgg3 rfl (rdA rfl)) ?_
 refine f_stillP rfl rfl rfl (o_idx sl25 rfl rfl (or + a.src.toNat) ⟨by omega, by omega, by first | omega | (simp; done) | (simp; omega)⟩) ?_
 refine f_stillP rfl rfl rfl (o_load Try.isAgg3 rfl (roOne (enc := (.int .i64 ·)) hSr hcr hsN)) ?_
 refine f_stillP rfl rfl rfl (o_load Try.isAgg3 rfl (rdS hS2 (hc2 0 _ rfl))) ?_
 refine f_stillP rfl rfl rfl (o_eql rfl rfl) ?_
 refine f_stillP rfl rfl rfl (o_move rfl) ?_
 refine f_splitS 13 rfl (fun g13 => ?_) (fun g13 => ?_)
 ·
  refine f_stillPY rfl rfl rfl rfl rfl (o_load Try.isAgg25 rfl (rdS hS1 (hc1 0 _ rfl))) ?_
  refine f_stillPY rfl rfl rfl rfl rfl (o_field fa39_1 rfl) ?_
  refine f_stillPY rfl rfl rfl rfl rfl (o_load Try.isAgg3 rfl (rdA rfl)) ?_
  refine f_stillPY rfl rfl rfl rfl rfl (o_idx sl25 rfl rfl (or + a.dst.toNat) ⟨by omega, by omega, by first | omega | (simp; done) | (simp; omega)⟩) ?_
  refine f_stillPY rfl rfl rfl rfl rfl (o_load Try.isAgg3 rfl (roOne (enc := (.int .i64 ·)) hSr hcr hdN)) ?_
  refine f_stillPY rfl rfl rfl rfl rfl (o_load Try.isAgg3 rfl (rdS hS2 (hc2 0 _ rfl))) ?_
  refine f_stillPY rfl rfl rfl rfl rfl (o_eql rfl rfl) ?_
  refine f_stillP rfl rfl rfl (o_pickT rfl rfl) ?_
  refine f_stillP rfl rfl rfl (o_move rfl) ?_
  refine f_splitS 22 rfl (fun g22 => ?_) (fun g22 => ?_)
  ·
   refine f_stillPY rfl rfl rfl rfl rfl (o_load Try.isAgg25 rfl (rdS hS3 (hc3 0 _ rfl))) ?_
   refine f_stillPY rfl rfl rfl rfl rfl (o_field fa39_0 rfl) ?_
   refine f_stillPY rfl rfl rfl rfl rfl (o_load Try.isAgg3 rfl (rdA rfl)) ?_
   refine f_stillPY rfl rfl rfl rfl rfl (o_idx sl25 rfl rfl (or2 + a.src.toNat) ⟨by omega, by omega, by first | omega | (simp; done) | (simp; omega)⟩) ?_
   refine f_stillPY rfl rfl rfl rfl rfl (o_load Try.isAgg3 rfl (roOne (enc := (.int .i64 ·)) hSr2 hcr2 hsN2)) ?_
   refine f_stillPY rfl rfl rfl rfl rfl (o_load Try.isAgg25 rfl (rdS hS3 (hc3 0 _ rfl))) ?_
   refine f_stillPY rfl rfl rfl rfl rfl (o_field fa39_1 rfl) ?_
   refine f_stillPY rfl rfl rfl rfl rfl (o_load Try.isAgg3 rfl (rdA rfl)) ?_
   refine f_stillPY rfl rfl rfl rfl rfl (o_idx sl25 rfl rfl (or2 + a.dst.toNat) ⟨by omega, by omega, by first | omega | (simp; done) | (simp; omega)⟩) ?_
   refine f_stillPY rfl rfl rfl rfl rfl (o_load Try.isAgg3 rfl (roOne (enc := (.int .i64 ·)) hSr2 hcr2 hdN2)) ?_
   refine f_stillPY rfl rfl rfl rfl rfl (o_neq rfl rfl) ?_
   refine f_stillP rfl rfl rfl (o_pickT rfl rfl) ?_
   refine f_stillD (f_tail ?_)
   refine f_stepP rfl rfl rfl (o_assign rfl) ?_
   refine f_done ?_
   refine f_tn (kh2 _ _ ?_)
   clear kh2
   refine f_ret ?_
   exact f_fin1 [] Try.results46 rfl Sub.nil ⟨by unfold btP inP unP; rw [getD_at hsN, getD_at hdN, getD_at hsN2, getD_at hdN2, decide_eq_true g13, decide_eq_true g22]; rfl, rfl⟩
  ·
   refine f_stillN rfl rfl rfl rfl rfl rfl ?_
   refine f_stillN rfl rfl rfl rfl rfl rfl ?_
   refine f_stillN rfl rfl rfl rfl rfl rfl ?_
   refine f_stillN rfl rfl rfl rfl rfl rfl ?_
   refine f_stillN rfl rfl rfl rfl rfl rfl ?_
   refine f_stillN rfl rfl rfl rfl rfl rfl ?_
   refine f_stillN rfl rfl rfl rfl rfl rfl ?_
   refine f_stillN rfl rfl rfl rfl rfl rfl ?_
   refine f_stillN rfl rfl rfl rfl rfl rfl ?_
   refine f_stillN rfl rfl rfl rfl rfl rfl ?_
   refine f_stillN rfl rfl rfl rfl rfl rfl ?_
   refine f_stillP rfl rfl rfl (o_pickF rfl rfl) ?_
   refine f_stillD (f_tail ?_)
   refine f_stepP rfl rfl rfl (o_assign rfl) ?_
   refine f_done ?_
   refine f_tn (kh2 _ _ ?_)
   clear kh2
   refine f_ret ?_
   exact f_fin1 [] Try.results46 rfl Sub.nil ⟨by unfold btP inP unP; rw [getD_at hsN, getD_at hdN, getD_at hsN2, getD_at hdN2, decide_eq_true g13, decide_eq_false g22]; rfl, rfl⟩
 ·
  refine f_stillN rfl rfl rfl rfl rfl rfl ?_
  refine f_stillN rfl rfl rfl rfl rfl rfl ?_
  refine f_stillN rfl rfl rfl rfl rfl rfl ?_
  refine f_stillN rfl rfl rfl rfl rfl rfl ?_
  refine f_stillN rfl rfl rfl rfl rfl rfl ?_
  refine f_stillN rfl rfl rfl rfl rfl rfl ?_
  refine f_stillN rfl rfl rfl rfl rfl rfl ?_
  refine f_stillP rfl rfl rfl (o_pickF rfl rfl) ?_
  refine f_stillP rfl rfl rfl (o_move rfl) ?_
  refine f_stillN rfl rfl rfl rfl rfl rfl ?_
  refine f_stillN rfl rfl rfl rfl rfl rfl ?_
  refine f_stillN rfl rfl rfl rfl rfl rfl ?_
  refine f_stillN rfl rfl rfl rfl rfl rfl ?_
  refine f_stillN rfl rfl rfl rfl rfl rfl ?_
  refine f_stillN rfl rfl rfl rfl rfl rfl ?_
  refine f_stillN rfl rfl rfl rfl rfl rfl ?_
  refine f_stillN rfl rfl rfl rfl rfl rfl ?_
  refine f_stillN rfl rfl rfl rfl rfl rfl ?_
  refine f_stillN rfl rfl rfl rfl rfl rfl ?_
  refine f_stillN rfl rfl rfl rfl rfl rfl ?_
  refine f_stillP rfl rfl rfl (o_pickF rfl rfl) ?_
  refine f_stillD (f_tail ?_)
  refine f_stepP rfl rfl rfl (o_assign rfl) ?_
  refine f_done ?_
  refine f_tn (kh2 _ _ ?_)
  clear kh2
  refine f_ret ?_
  exact f_fin1 [] Try.results46 rfl Sub.nil ⟨by unfold btP inP unP; rw [getD_at hsN, getD_at hdN, getD_at hsN2, getD_at hdN2, decide_eq_false g13]; rfl, rfl⟩

set_option maxRecDepth 100000 in
set_option maxHeartbeats 4000000 in
theorem COuter_spec (N : Int) (A : Option Addr) (l : List Arc) (cap : Nat) (Ab : Option Addr) (bs : List Int) (cb : Nat) (Ac : Option Addr) (R : List Row) (cc : Nat) (q : Int) (w : World) (hr : Ro (Fr w []) w A (l.flatMap arcCs)) (hl : l.length ≤ 9223372036854775807) (hN : I64 N) (hok : ∀ x ∈ l, ArcOk x) (hn : NestRo (Fr w []) w Ab bs Ac R) :
    Meets Try.prog 9 [.agg #[.int .i64 N, .slice A l.length cap], .agg #[.slice Ab bs.length cb, .slice Ac R.length cc], .int .i64 q] w [] (fun u own' => ∃ (M : List Int) (A' : Option Addr) (c2 : Nat) (m' : Seg), u = .tuple #[.slice A' M.length M.length, .int .i64 (lkE N l bs (rowsL R) q)] ∧ own' = [m'] ∧ Own 3 1 (.slice A' M.length c2) M.length (ints M) m' ∧ (lkE N l bs (rowsL R) q ≠ 0 → M = []) ∧ (lkE N l bs (rowsL R) q = 0 → M = idxs (unP ((rowsL R).getD (q.toNat - 1) [])) l)) := by
 refine f_enter Try.func9 rfl Try.ntmps9 rfl Owns.nil ?_
 refine f_seq fun K1 kh1 => ?_
 refine f_region ?_
 refine f_step rfl rfl rfl (o_box rfl rfl fun b3 => ?_)
 refine f_step rfl rfl rfl (o_box rfl rfl fun b4 => ?_)
 refine f_stepP rfl rfl rfl (o_assign rfl) ?_
 refine f_stepP rfl rfl rfl (o_assign rfl) ?_
 refine f_done ?_
 refine f_tn (kh1 _ _ ?_)
 clear kh1
 refine f_seq fun K2 kh2 => ?_
 refine f_seq fun K3 kh3 => ?_
 refine f_region ?_
 refine f_stepP rfl rfl rfl (o_loadA (vs := [_, _]) Try.isAgg24 Try.sizeOf24 rfl rfl ⟨(rdA rfl), (rdA rfl), trivial⟩) ?_
 refine f_stepP rfl rfl rfl (o_loadA (vs := [_, _]) Try.isAgg28 Try.sizeOf28 rfl rfl ⟨(rdA rfl), (rdA rfl), trivial⟩) ?_
 refine f_stepP rfl rfl rfl (o_move rfl) ?_
 refine f_step rfl rfl rfl (o_call Try.call10 rfl (fun w_ hp_ => NMany_spec N A l cap Ab bs cb Ac R cc q w_ (hr.up0 hp_) hl hN hok (hn.up0 hp_)) ?_)
 rintro _ _ ⟨rfl, rfl⟩
 dsimp only [List.cons_append, List.nil_append]
 refine f_stepP rfl rfl rfl (o_move rfl) ?_
 refine f_stepP rfl rfl rfl (o_extract rfl rfl) ?_
 refine f_stepP rfl rfl rfl (o_extract rfl rfl) ?_
 refine f_stepP rfl rfl rfl (o_assign rfl) ?_
 refine f_stepP rfl rfl rfl (o_assign rfl) ?_
 refine f_done ?_
 refine f_tn (kh3 _ _ ?_)
 clear kh3
 refine f_seq fun K4 kh4 => ?_
 refine f_region ?_
 refine f_stepP rfl rfl rfl (o_move rfl) ?_
 refine f_stepP rfl rfl rfl (o_neq rfl rfl) ?_
 refine f_done ?_
 refine f_tn (kh4 _ _ ?_)
 clear kh4
 refine f_cond rfl (fun c19 => ?_) (fun c19 => ?_)
 ·
  refine f_seq fun K5 kh5 => ?_
  refine f_region ?_
  refine f_stepP rfl rfl rfl (o_move rfl) ?_
  refine f_stepP rfl rfl rfl (o_assign rfl) ?_
  refine f_stepP rfl rfl rfl (o_assign rfl) ?_
  refine f_done ?_
  refine f_tn (kh5 _ _ ?_)
  clear kh5
  refine f_ret ?_
  refine f_tr ?_
  have e : lkE N l bs (rowsL R) q = lkE N l bs (rowsL R) q := rfl
  exact f_fin2 [[]] Try.results9 rfl rfl (show Fly.Sub _ [[]] from (by repeat (first | exact Sub.nil | refine Sub.pick ?_ | refine Sub.castO rfl ?_ | refine Sub.skip ?_))) ⟨[], none, 0, [], by rw [e]; rfl, rfl, Own.nil _ _, fun _ => rfl, fun h => absurd (e.symm.trans h) (by simpa using c19)⟩
 ·
  have hlz : lkE N l bs (rowsL R) q = 0 := by simpa using c19
  obtain ⟨n, k, hNn, hNo, hqk, hkb⟩ := lkE_zero hlz
  have hRl := hNo.len
  rw [rowsL_len] at hRl
  have hmany := hNo.many
  have hkR : k < R.length := by omega
  obtain ⟨hn1, hn2, hlen, hgd⟩ := gcheck_zero hNo.g
  have hrow := hn.rows _ (List.getElem_mem hkR)
  have hrk := rowsL_at hkR
  have hkl := hNo.rowlen (k := k) (by omega)
  rw [hrk] at hkl
  obtain ⟨b0, o0, hA0, hS0, hc0⟩ := hn.c (map_ne hkR)
  refine f_skip ?_
  refine f_tn (kh2 _ _ ?_)
  clear kh2
  refine f_seq fun K6 kh6 => ?_
  refine f_region ?_
  refine f_stepP rfl rfl rfl (o_field fa28_1 rfl) ?_
  refine f_stepP rfl rfl rfl (o_load Try.isAgg26 rfl (v := .slice (some ⟨b0, o0, none⟩) R.length cc) (rdA (by rw [← hA0]; rfl))) ?_
  refine f_stepP rfl rfl rfl (o_move rfl) ?_
  refine f_stepP rfl rfl rfl (o_sub rfl rfl _ (Eq.trans (wrap_i64 (by omega)) (show _ = (k : Int) by omega))) ?_
  refine f_stepP rfl rfl rfl (o_idx sl26 rfl rfl (o0 + k) ⟨by omega, by omega, by first | omega | (simp; done) | (simp; omega)⟩) ?_
  refine f_stepP rfl rfl rfl (o_load Try.isAgg25 rfl (roOne (enc := rowV) hS0 hc0 hkR)) ?_
  refine f_step rfl rfl rfl (o_alloc Try.zeroValue25 rfl fun b10 => ?_)
  refine f_step0 rfl rfl (o_store Try.sizeOf25 rfl rfl rfl rfl (by first | exact Nat.le_of_ble_eq_true rfl | (simp; done) | (simp; omega)) [rowV (R[k]'hkR)] rfl ?_)
  refine f_done ?_
  refine f_tn (kh6 _ _ ?_)
  clear kh6
  refine f_seq fun K7 kh7 => ?_
  refine f_region ?_
  refine f_stepP rfl rfl rfl (o_loadA (vs := [_, _]) Try.isAgg24 Try.sizeOf24 rfl rfl ⟨(rdA rfl), (rdA rfl), trivial⟩) ?_
  refine f_stepP rfl rfl rfl (o_func rfl rfl) ?_
  refine f_step rfl rfl rfl (o_call Try.call28 rfl (fun w_ hp_ => chosen_spec N A l cap (unP (R[k]'hkR).2.1) 29 [.pointer (some ⟨b10, 0, none⟩)] w_ (hr.up0 hp_) hlen Try.call29 (fun w' hs i hi => Outer1_spec l[i] b10 (R[k]'hkR).1 (R[k]'hkR).2.1 (R[k]'hkR).2.2 w' (heldRo hp_ hs) (Ro.held (hrow.1.up0 hp_) hs) (by have := hgd i hi; omega) (by have := hgd i hi; omega))) ?_)
  rintro _ _ ⟨Ao, co, mo, rfl, rfl, hO⟩
  dsimp only [List.cons_append, List.nil_append]
  refine f_stepP rfl rfl rfl (o_assign rfl) ?_
  refine f_stepP rfl rfl rfl (o_assign rfl) ?_
  refine f_done ?_
  refine f_tn (kh7 _ _ ?_)
  clear kh7
  refine f_ret ?_
  have e := hlz
  exact f_fin2 [mo] Try.results9 rfl rfl (by repeat (first | exact Sub.nil | refine Sub.pick ?_ | refine Sub.castO rfl ?_ | refine Sub.skip ?_)) ⟨_, Ao, co, mo, by rw [e], rfl, hO, fun h => absurd e h, fun _ => by rw [show q.toNat - 1 = k by omega, hrk]⟩

set_option maxRecDepth 100000 in
set_option maxHeartbeats 4000000 in
theorem CBetween_spec (N : Int) (A : Option Addr) (l : List Arc) (cap : Nat) (Ab : Option Addr) (bs : List Int) (cb : Nat) (Ac : Option Addr) (R : List Row) (cc : Nat) (q c : Int) (w : World) (hr : Ro (Fr w []) w A (l.flatMap arcCs)) (hl : l.length ≤ 9223372036854775807) (hN : I64 N) (hok : ∀ x ∈ l, ArcOk x) (hn : NestRo (Fr w []) w Ab bs Ac R) :
    Meets Try.prog 25 [.agg #[.int .i64 N, .slice A l.length cap], .agg #[.slice Ab bs.length cb, .slice Ac R.length cc], .int .i64 q, .int .i64 c] w [] (fun u own' => ∃ (M : List Int) (A' : Option Addr) (c2 : Nat) (m' : Seg), u = .tuple #[.slice A' M.length M.length, .int .i64 (bwE N l bs (rowsL R) q c)] ∧ own' = [m'] ∧ Own 3 1 (.slice A' M.length c2) M.length (ints M) m' ∧ (bwE N l bs (rowsL R) q c ≠ 0 → M = []) ∧ (bwE N l bs (rowsL R) q c = 0 → M = idxs (btP ((rowsL R).getD (q.toNat - 1) []) ((rowsL R).getD (q.toNat - 2) []) c) l)) := by
 refine f_enter Try.func25 rfl Try.ntmps25 rfl Owns.nil ?_
 refine f_seq fun K1 kh1 => ?_
 refine f_region ?_
 refine f_step rfl rfl rfl (o_box rfl rfl fun b4 => ?_)
 refine f_step rfl rfl rfl (o_box rfl rfl fun b5 => ?_)
 refine f_step rfl rfl rfl (o_box rfl rfl fun b7 => ?_)
 refine f_stepP rfl rfl rfl (o_assign rfl) ?_
 refine f_stepP rfl rfl rfl (o_assign rfl) ?_
 refine f_done ?_
 refine f_tn (kh1 _ _ ?_)
 clear kh1
 refine f_seq fun K2 kh2 => ?_
 refine f_region ?_
 refine f_stepP rfl rfl rfl (o_loadA (vs := [_, _]) Try.isAgg24 Try.sizeOf24 rfl rfl ⟨(rdA rfl), (rdA rfl), trivial⟩) ?_
 refine f_stepP rfl rfl rfl (o_loadA (vs := [_, _]) Try.isAgg28 Try.sizeOf28 rfl rfl ⟨(rdA rfl), (rdA rfl), trivial⟩) ?_
 refine f_stepP rfl rfl rfl (o_move rfl) ?_
 refine f_stepP rfl rfl rfl (o_load Try.isAgg3 rfl (rdA rfl)) ?_
 refine f_step rfl rfl rfl (o_call Try.call32 rfl (fun w_ hp_ => clooked_spec N A l cap Ab bs cb Ac R cc q c w_ (hr.up0 hp_) hl hN hok (hn.up0 hp_)) ?_)
 rintro _ _ ⟨r, rfl, rfl, hr1, hr0⟩
 dsimp only [List.cons_append, List.nil_append]
 refine f_stepP rfl rfl rfl (o_move rfl) ?_
 refine f_stepP rfl rfl rfl (o_extract rfl rfl) ?_
 refine f_stepP rfl rfl rfl (o_extract rfl rfl) ?_
 refine f_step rfl rfl rfl (o_alloc Try.zeroValue25 rfl fun b10 => ?_)
 refine f_step0 rfl rfl (o_store Try.sizeOf25 rfl rfl rfl rfl (by first | exact Nat.le_of_ble_eq_true rfl | (simp; done) | (simp; omega)) [rowV r] rfl ?_)
 refine f_stepP rfl rfl rfl (o_assign rfl) ?_
 refine f_done ?_
 refine f_tn (kh2 _ _ ?_)
 clear kh2
 refine f_seq fun K3 kh3 => ?_
 refine f_seq fun K4 kh4 => ?_
 refine f_region ?_
 refine f_stepP rfl rfl rfl (o_move rfl) ?_
 refine f_stepP rfl rfl rfl (o_neq rfl rfl) ?_
 refine f_done ?_
 refine f_tn (kh4 _ _ ?_)
 clear kh4
 refine f_cond rfl (fun c22 => ?_) (fun c22 => ?_)
 ·
  refine f_seq fun K5 kh5 => ?_
  refine f_region ?_
  refine f_stepP rfl rfl rfl (o_move rfl) ?_
  refine f_stepP rfl rfl rfl (o_assign rfl) ?_
  refine f_stepP rfl rfl rfl (o_assign rfl) ?_
  refine f_done ?_
  refine f_tn (kh5 _ _ ?_)
  clear kh5
  refine f_ret ?_
  refine f_tr ?_
  have e : bwE N l bs (rowsL R) q c = clE N l bs (rowsL R) q c := by unfold bwE; rw [if_pos (by simpa using c22)]
  exact f_fin2 [[]] Try.results25 rfl rfl (show Fly.Sub _ [[]] from (by repeat (first | exact Sub.nil | refine Sub.pick ?_ | refine Sub.castO rfl ?_ | refine Sub.skip ?_))) ⟨[], none, 0, [], by rw [e]; rfl, rfl, Own.nil _ _, fun _ => rfl, fun h => absurd (e.symm.trans h) (by simpa using c22)⟩
 ·
  have hcz : clE N l bs (rowsL R) q c = 0 := by simpa using c22
  obtain ⟨n, k, j, hNn, hNo, hqk, hkb, hcj, hjm⟩ := clE_zero hcz
  have hRl := hNo.len
  rw [rowsL_len] at hRl
  have hmany := hNo.many
  obtain ⟨hn1, hn2, hlen, hgd⟩ := gcheck_zero hNo.g
  have hrr := hr0 hcz
  have hrow := row_get hrr (by omega)
  rw [show q.toNat - 1 = k by omega] at hrow
  have hkl := hNo.rowlen (k := k) (by omega)
  rw [hrow] at hkl
  have hrm := hn.rows r (List.mem_of_getElem? hrr)
  refine f_skip ?_
  refine f_tn (kh3 _ _ ?_)
  clear kh3
  refine f_seq fun K6 kh6 => ?_
  refine f_seq fun K7 kh7 => ?_
  refine f_region ?_
  refine f_stepP rfl rfl rfl (o_move rfl) ?_
  refine f_stepP rfl rfl rfl (o_eql rfl rfl) ?_
  refine f_done ?_
  refine f_tn (kh7 _ _ ?_)
  clear kh7
  refine f_cond rfl (fun c25 => ?_) (fun c25 => ?_)
  ·
   refine f_seq fun K8 kh8 => ?_
   refine f_region ?_
   refine f_stepP rfl rfl rfl (o_assign rfl) ?_
   refine f_stepP rfl rfl rfl (o_assign rfl) ?_
   refine f_done ?_
   refine f_tn (kh8 _ _ ?_)
   clear kh8
   refine f_ret ?_
   refine f_tr ?_
   have e : bwE N l bs (rowsL R) q c = 111 := by unfold bwE; rw [if_neg (by rw [hcz]; simp), if_pos (by omega)]
   exact f_fin2 [[]] Try.results25 rfl rfl (show Fly.Sub _ [[]] from (by repeat (first | exact Sub.nil | refine Sub.pick ?_ | refine Sub.castO rfl ?_ | refine Sub.skip ?_))) ⟨[], none, 0, [], by rw [e]; rfl, rfl, Own.nil _ _, fun _ => rfl, fun h => absurd (e.symm.trans h) (by decide)⟩
  ·
   obtain ⟨k1, hk1⟩ : ∃ k1, k = k1 + 1 := ⟨k - 1, by omega⟩
   have hkR : k1 < R.length := by omega
   have hrow1 := hn.rows _ (List.getElem_mem hkR)
   have hrk := rowsL_at hkR
   have hkl1 := hNo.rowlen (k := k1) (by omega)
   rw [hrk] at hkl1
   obtain ⟨b0, o0, hA0, hS0, hc0⟩ := hn.c (map_ne hkR)
   refine f_skip ?_
   refine f_tn (kh6 _ _ ?_)
   clear kh6
   refine f_seq fun K9 kh9 => ?_
   refine f_region ?_
   refine f_stepP rfl rfl rfl (o_field fa28_1 rfl) ?_
   refine f_stepP rfl rfl rfl (o_load Try.isAgg26 rfl (v := .slice (some ⟨b0, o0, none⟩) R.length cc) (rdA (by rw [← hA0]; rfl))) ?_
   refine f_stepP rfl rfl rfl (o_move rfl) ?_
   refine f_stepP rfl rfl rfl (o_sub rfl rfl _ (Eq.trans (wrap_i64 (by omega)) (show _ = (k1 : Int) by omega))) ?_
   refine f_stepP rfl rfl rfl (o_idx sl26 rfl rfl (o0 + k1) ⟨by omega, by omega, by first | omega | (simp; done) | (simp; omega)⟩) ?_
   refine f_stepP rfl rfl rfl (o_load Try.isAgg25 rfl (roOne (enc := rowV) hS0 hc0 hkR)) ?_
   refine f_step rfl rfl rfl (o_alloc Try.zeroValue25 rfl fun b12 => ?_)
   refine f_step0 rfl rfl (o_store Try.sizeOf25 rfl rfl rfl rfl (by first | exact Nat.le_of_ble_eq_true rfl | (simp; done) | (simp; omega)) [rowV (R[k1]'hkR)] rfl ?_)
   refine f_done ?_
   refine f_tn (kh9 _ _ ?_)
   clear kh9
   refine f_seq fun K10 kh10 => ?_
   refine f_region ?_
   refine f_stepP rfl rfl rfl (o_loadA (vs := [_, _]) Try.isAgg24 Try.sizeOf24 rfl rfl ⟨(rdA rfl), (rdA rfl), trivial⟩) ?_
   refine f_stepP rfl rfl rfl (o_func rfl rfl) ?_
   refine f_step rfl rfl rfl (o_call Try.call28 rfl (fun w_ hp_ => chosen_spec N A l cap (btP r.2.1 (R[k1]'hkR).2.1 c) 46 [.pointer (some ⟨b10, 0, none⟩), .pointer (some ⟨b7, 0, none⟩), .pointer (some ⟨b12, 0, none⟩)] w_ (hr.up0 hp_) hlen Try.call46 (fun w' hs i hi => Between1_spec l[i] b10 b7 b12 r.1 r.2.1 r.2.2 (R[k1]'hkR).1 (R[k1]'hkR).2.1 (R[k1]'hkR).2.2 c w' (heldRo hp_ hs) (heldRo hp_ hs) (heldRo hp_ hs) (Ro.held (hrm.1.up0 hp_) hs) (Ro.held (hrow1.1.up0 hp_) hs) (by omega) (by have := hgd i hi; omega) (by have := hgd i hi; omega))) ?_)
   rintro _ _ ⟨Ao, co, mo, rfl, rfl, hO⟩
   dsimp only [List.cons_append, List.nil_append]
   refine f_stepP rfl rfl rfl (o_assign rfl) ?_
   refine f_stepP rfl rfl rfl (o_assign rfl) ?_
   refine f_done ?_
   refine f_tn (kh10 _ _ ?_)
   clear kh10
   refine f_ret ?_
   have e : bwE N l bs (rowsL R) q c = 0 := by unfold bwE; rw [if_neg (by rw [hcz]; simp), if_neg (by omega)]
   exact f_fin2 [mo] Try.results25 rfl rfl (by repeat (first | exact Sub.nil | refine Sub.pick ?_ | refine Sub.castO rfl ?_ | refine Sub.skip ?_)) ⟨_, Ao, co, mo, by rw [e], rfl, hO, fun h => absurd e h, fun _ => by rw [show q.toNat - 1 = k by omega, show q.toNat - 2 = k1 by omega, hrow, hrk]⟩

end Go.Proofs.Ytkmkakpadgljeaa

/- package cell: Boundary, Index; slices.BinarySearch. -/
namespace Go.Proofs.Ytkmkakpadgljeaa
open Go Go.RowKit Fly
set_option linter.unusedVariables false
set_option linter.unusedSimpArgs false


/-- What an arc gives to a cell's boundary. -/
def bdOf (L : List Int) (c : Int) (a : Arc) : List Int := if L.getD a.src.toNat 0 = L.getD a.dst.toNat 0 then [] else (if L.getD a.src.toNat 0 = c then [a.src] else []) ++ (if L.getD a.dst.toNat 0 = c then [a.dst] else [])
def bdR (L : List Int) (c : Int) (l : List Arc) : List Int := l.flatMap (bdOf L c)
/-- A cell's boundary vertices. -/
def bdL (L : List Int) (c : Int) (l : List Arc) : List Int := cpt (sortI (bdR L c l))
theorem bdOf_len (L : List Int) (c : Int) (a : Arc) : (bdOf L c a).length ≤ 2 := by
  unfold bdOf
  by_cases h : L.getD a.src.toNat 0 = L.getD a.dst.toNat 0
  · rw [if_pos h]; simp
  · rw [if_neg h, List.length_append]
    have e (p : Prop) [Decidable p] (x : Int) : (if p then [x] else ([] : List Int)).length ≤ 1 := by split <;> simp
    have := e (L.getD a.src.toNat 0 = c) a.src
    have := e (L.getD a.dst.toNat 0 = c) a.dst
    omega
theorem bdR_next {L : List Int} {c : Int} {l : List Arc} {k : Nat} (hk : k < l.length) : bdR L c (l.take (k + 1)) = bdR L c (l.take k) ++ bdOf L c l[k] := by
  unfold bdR; rw [List.take_succ_eq_append_getElem hk, List.flatMap_append]; simp
theorem bdR_len (L : List Int) (c : Int) : ∀ l : List Arc, (bdR L c l).length ≤ 2 * l.length
  | [] => by simp [bdR]
  | a :: l => by
    have := bdR_len L c l
    have := bdOf_len L c a
    unfold bdR at *
    rw [List.flatMap_cons, List.length_append, List.length_cons]; omega
theorem bdL_rising (L : List Int) (c : Int) (l : List Arc) : (bdL L c l).Pairwise (· < ·) := cpt_int (sortI_sorted _)
theorem bdOf_mem {L : List Int} {c : Int} {a : Arc} {v : Int} : v ∈ bdOf L c a ↔ L.getD a.src.toNat 0 ≠ L.getD a.dst.toNat 0 ∧ ((L.getD a.src.toNat 0 = c ∧ v = a.src) ∨ (L.getD a.dst.toNat 0 = c ∧ v = a.dst)) := by
  unfold bdOf
  split
  · rename_i h; exact ⟨fun h2 => absurd h2 (by simp), fun h2 => absurd h h2.1⟩
  · rename_i h
    rw [List.mem_append]
    constructor
    · rintro (h1 | h1)
      · split at h1
        · rename_i h2; exact ⟨h, .inl ⟨h2, by simpa using h1⟩⟩
        · simp at h1
      · split at h1
        · rename_i h2; exact ⟨h, .inr ⟨h2, by simpa using h1⟩⟩
        · simp at h1
    · rintro ⟨_, ⟨h2, rfl⟩ | ⟨h2, rfl⟩⟩
      · rw [if_pos h2]; exact .inl (by simp)
      · rw [if_pos h2]; exact .inr (by simp)
theorem bdL_mem {L : List Int} {c : Int} {l : List Arc} {v : Int} : v ∈ bdL L c l ↔ ∃ a ∈ l, v ∈ bdOf L c a := by
  unfold bdL; rw [cpt_mem, (sortI_perm _).mem_iff]; unfold bdR; rw [List.mem_flatMap]
/-- The place of a number in a list that rises. -/
theorem rise_lt {l : List Int} (h : l.Pairwise (· < ·)) {i j : Nat} (hij : i < j) (hj : j < l.length) : l[i]'(by omega) < l[j] := List.pairwise_iff_getElem.1 h i j (by omega) hj hij
theorem rise_mem {l : List Int} (h : l.Pairwise (· < ·)) {x : Int} {i : Nat} (hi : i ≤ l.length) (h1 : ∀ j (hj : j < l.length), j < i → l[j] < x) (h2 : ∀ j (hj : j < l.length), i ≤ j → x ≤ l[j]) : x ∈ l ↔ ∃ hi : i < l.length, l[i] = x := by
  constructor
  · intro hm
    obtain ⟨j, hj, rfl⟩ := List.mem_iff_getElem.1 hm
    rcases Nat.lt_trichotomy j i with e | e | e
    · have := h1 j hj e; omega
    · subst e; exact ⟨hj, rfl⟩
    · have := h2 i (by omega) (Nat.le_refl _)
      have := rise_lt h e hj
      omega
  · rintro ⟨hi, rfl⟩; exact List.getElem_mem hi
theorem le_rise {l : List Int} (h : l.Pairwise (· < ·)) {i j : Nat} (hij : i ≤ j) (hj : j < l.length) : l[i]'(by omega) ≤ l[j] := by
  rcases Nat.lt_or_ge i j with e | e
  · have := rise_lt h e hj; omega
  · obtain rfl : i = j := by omega
    exact Int.le_refl _

theorem shr1 {y : Nat} (h : y < 18446744073709551616) : ((y : Nat) : Int).fdiv (2 ^ (min ((1 : Int).toNat) IntKind.u64.bits)) = ((y / 2 : Nat) : Int) := by
  show (y : Int).fdiv 2 = _
  rw [Int.fdiv_eq_ediv_of_nonneg _ (by decide)]
  omega

set_option maxRecDepth 100000 in
set_option maxHeartbeats 4000000 in
theorem cmpNaN_spec (x : Int) (w : World) : Meets Try.prog 78 [.int .i64 x] w [] (fun u m => u = .bool false ∧ m = []) := by
 refine f_enter Try.func78 rfl Try.ntmps78 rfl Owns.nil ?_
 refine f_seq fun K1 kh1 => ?_
 refine f_region ?_
 refine f_stepP rfl rfl rfl (o_assign rfl) ?_
 refine f_done ?_
 refine f_tn (kh1 _ _ ?_)
 clear kh1
 refine f_seq fun K2 kh2 => ?_
 refine f_region ?_
 refine f_stepP rfl rfl rfl (o_move rfl) ?_
 refine f_stepP rfl rfl rfl (o_move rfl) ?_
 refine f_stepP rfl rfl rfl (o_neq rfl rfl) ?_
 refine f_stepP rfl rfl rfl (o_assign rfl) ?_
 refine f_done ?_
 refine f_tn (kh2 _ _ ?_)
 clear kh2
 refine f_ret ?_
 exact f_fin1 [] Try.results78 rfl Sub.nil ⟨by simp, rfl⟩

set_option maxRecDepth 100000 in
set_option maxHeartbeats 4000000 in
theorem slNaN_spec (x : Int) (w : World) : Meets Try.prog 56 [.int .i64 x] w [] (fun u m => u = .bool false ∧ m = []) := by
 refine f_enter Try.func56 rfl Try.ntmps56 rfl Owns.nil ?_
 refine f_seq fun K1 kh1 => ?_
 refine f_region ?_
 refine f_stepP rfl rfl rfl (o_assign rfl) ?_
 refine f_done ?_
 refine f_tn (kh1 _ _ ?_)
 clear kh1
 refine f_seq fun K2 kh2 => ?_
 refine f_region ?_
 refine f_stepP rfl rfl rfl (o_move rfl) ?_
 refine f_stepP rfl rfl rfl (o_move rfl) ?_
 refine f_stepP rfl rfl rfl (o_neq rfl rfl) ?_
 refine f_stepP rfl rfl rfl (o_assign rfl) ?_
 refine f_done ?_
 refine f_tn (kh2 _ _ ?_)
 clear kh2
 refine f_ret ?_
 exact f_fin1 [] Try.results56 rfl Sub.nil ⟨by simp, rfl⟩

set_option maxRecDepth 100000 in
set_option maxHeartbeats 4000000 in
theorem cmpLess_spec (x y : Int) (w : World) : Meets Try.prog 55 [.int .i64 x, .int .i64 y] w [] (fun u m => u = .bool (decide (x < y)) ∧ m = []) := by
 refine f_enter Try.func55 rfl Try.ntmps55 rfl Owns.nil ?_
 refine f_seq fun K1 kh1 => ?_
 refine f_region ?_
 refine f_stepP rfl rfl rfl (o_assign rfl) ?_
 refine f_done ?_
 refine f_tn (kh1 _ _ ?_)
 clear kh1
 refine f_seq fun K2 kh2 => ?_
 refine f_region ?_
 refine f_stepP rfl rfl rfl (o_move rfl) ?_
 refine f_step rfl rfl rfl (o_call Try.call78 rfl (fun w_ hp_ => cmpNaN_spec x w_) ?_)
 rintro _ _ ⟨rfl, rfl⟩
 dsimp only [List.cons_append, List.nil_append]
 refine f_stepP rfl rfl rfl (o_move rfl) ?_
 refine f_stepN rfl rfl rfl rfl rfl rfl ?_
 refine f_stepN rfl rfl rfl rfl rfl rfl ?_
 refine f_stepN rfl rfl rfl rfl rfl rfl ?_
 refine f_stepP rfl rfl rfl (o_pickF rfl rfl) ?_
 refine f_stepP rfl rfl rfl (o_move rfl) ?_
 refine f_stepPY rfl rfl rfl rfl rfl (o_move rfl) ?_
 refine f_stepPY rfl rfl rfl rfl rfl (o_move rfl) ?_
 refine f_stepPY rfl rfl rfl rfl rfl (o_lss rfl rfl) ?_
 refine f_stepP rfl rfl rfl (o_pickF rfl rfl) ?_
 refine f_stepP rfl rfl rfl (o_assign rfl) ?_
 refine f_done ?_
 refine f_tn (kh2 _ _ ?_)
 clear kh2
 refine f_ret ?_
 exact f_fin1 [] Try.results55 rfl Sub.nil ⟨rfl, rfl⟩

set_option maxRecDepth 100000 in
set_option maxHeartbeats 4000000 in
theorem BSearch_spec (A : Option Addr) (l : List Int) (cap : Nat) (x : Int) (w : World) (hr : Ro (Fr w []) w A (ints l)) (hm : l.length ≤ 1000000) (hs : l.Pairwise (· < ·)) :
    Meets Try.prog 36 [.slice A l.length cap, .int .i64 x] w [] (fun u m => ∃ i : Nat, u = .tuple #[.int .i64 (i : Int), .bool (decide (x ∈ l))] ∧ m = [] ∧ (x ∈ l → l[i]? = some x)) := by
 refine f_enter Try.func36 rfl Try.ntmps36 rfl Owns.nil ?_
 refine f_seq fun K1 kh1 => ?_
 refine f_region ?_
 refine f_stepP rfl rfl rfl (o_assign rfl) ?_
 refine f_stepP rfl rfl rfl (o_assign rfl) ?_
 refine f_done ?_
 refine f_tn (kh1 _ _ ?_)
 clear kh1
 refine f_seq fun K2 kh2 => ?_
 refine f_region ?_
 refine f_stepP rfl rfl rfl (o_move rfl) ?_
 refine f_stepP rfl rfl rfl (o_len sl25 rfl) ?_
 refine f_stepP rfl rfl rfl (o_assign rfl) ?_
 refine f_done ?_
 refine f_tn (kh2 _ _ ?_)
 clear kh2
 refine f_seq fun K3 kh3 => ?_
 refine f_region ?_
 refine f_stepP rfl rfl rfl (o_move rfl) ?_
 refine f_stepP rfl rfl rfl (o_assign rfl) ?_
 refine f_stepP rfl rfl rfl (o_assign rfl) ?_
 refine f_done ?_
 refine f_tn (kh3 _ _ ?_)
 clear kh3
 refine f_seq fun K4 kh4 => ?_
 refine f_block ?_
 refine f_loop (α := Nat × Nat) [0, 1, 6] (fun ⟨i, j⟩ => [(7, .int .i64 (i : Int)), (8, .int .i64 (j : Int))]) (fun ⟨i, j⟩ => []) (fun ⟨i, j⟩ => i ≤ j ∧ j ≤ l.length ∧ (∀ k (hk : k < l.length), k < i → l[k] < x) ∧ (∀ k (hk : k < l.length), j ≤ k → x ≤ l[k])) (fun ⟨i, j⟩ => j - i) (0, l.length) ?_ ?_ ?_ ?_
 · exact (by repeat (first | exact trivial | refine ⟨rfl, ?_⟩))
 · repeat (first | exact Sub.nil | refine Sub.pick ?_ | refine Sub.castO rfl ?_ | refine Sub.skip ?_)
 · exact ⟨Nat.zero_le _, Nat.le_refl _, fun k _ h => by omega, fun k hk h => by omega⟩
 ·
  rintro ⟨i, j⟩ ⟨hij, hjl, hlo, hhi⟩
  refine f_seq fun K5 kh5 => ?_
  refine f_seq fun K6 kh6 => ?_
  refine f_region ?_
  refine f_stepP rfl rfl rfl (o_move rfl) ?_
  refine f_stepP rfl rfl rfl (o_move rfl) ?_
  refine f_stepP rfl rfl rfl (o_lss rfl rfl) ?_
  refine f_done ?_
  refine f_tn (kh6 _ _ ?_)
  clear kh6
  refine f_cond rfl (fun c15 => ?_) (fun c15 => ?_)
  ·
   have hh : (i + j) / 2 < l.length := by omega
   obtain ⟨b, o, rfl, hS, hc⟩ := hr (map_ne hh)
   refine f_skip ?_
   refine f_tn (kh5 _ _ ?_)
   clear kh5
   refine f_block ?_
   refine f_seq fun K7 kh7 => ?_
   refine f_region ?_
   refine f_stepP rfl rfl rfl (o_move rfl) ?_
   refine f_stepP rfl rfl rfl (o_move rfl) ?_
   refine f_stepP rfl rfl rfl (o_add rfl rfl _ (wrap_i64 (by omega))) ?_
   refine f_stepP rfl rfl rfl (o_conv Try.runUnderlying3 Try.runUnderlying78 rfl _ (show _ = ((i + j : Nat) : Int) from by rw [wrap_u64 (by omega)]; omega)) ?_
   refine f_stepP rfl rfl rfl (o_shr rfl rfl (by decide) (((i + j) / 2 : Nat) : Int) (shr1 (by omega))) ?_
   refine f_stepP rfl rfl rfl (o_conv Try.runUnderlying78 Try.runUnderlying3 rfl _ (wrap_i64 (by omega))) ?_
   refine f_stepP rfl rfl rfl (o_assign rfl) ?_
   refine f_done ?_
   refine f_tn (kh7 _ _ ?_)
   clear kh7
   refine f_seq fun K8 kh8 => ?_
   refine f_region ?_
   refine f_stepP rfl rfl rfl (o_move rfl) ?_
   refine f_stepP rfl rfl rfl (o_move rfl) ?_
   refine f_stepP rfl rfl rfl (o_idx sl25 rfl rfl (o + (i + j) / 2) ⟨by omega, by omega, by first | omega | (simp; done) | (simp; omega)⟩) ?_
   refine f_stepP rfl rfl rfl (o_load Try.isAgg3 rfl (roOne (enc := (.int .i64 ·)) hS hc hh)) ?_
   refine f_stepP rfl rfl rfl (o_move rfl) ?_
   refine f_step rfl rfl rfl (o_call Try.call55 rfl (fun w_ hp_ => cmpLess_spec l[(i + j) / 2] x w_) ?_)
   rintro _ _ ⟨rfl, rfl⟩
   dsimp only [List.cons_append, List.nil_append]
   refine f_done ?_
   refine f_tn (kh8 _ _ ?_)
   clear kh8
   refine f_condB rfl (fun c27 => ?_) (fun c27 => ?_)
   ·
    have c27 : l[(i + j) / 2] < x := by simpa using c27
    refine f_region ?_
    refine f_stepP rfl rfl rfl (o_move rfl) ?_
    refine f_stepP rfl rfl rfl (o_add rfl rfl _ (wrap_i64 (by omega))) ?_
    refine f_stepP rfl rfl rfl (o_assign rfl) ?_
    refine f_done ?_
    refine f_bn ?_
    refine f_tn (f_again ((i + j) / 2 + 1, j) (by first | omega | (dsimp only; omega) | (simp; omega)) ⟨by omega, hjl, fun k hk h => Int.lt_of_le_of_lt (le_rise hs (show k ≤ (i + j) / 2 by omega) hh) c27, hhi⟩ ?_ ?_ ?_)
    · exact (by repeat (first | exact trivial | refine ⟨rfl, ?_⟩))
    · exact (by repeat (first | exact trivial | refine ⟨rfl, ?_⟩))
    · repeat (first | exact Sub.nil | refine Sub.pick ?_ | refine Sub.castO rfl ?_ | refine Sub.skip ?_)
   ·
    have c27 : ¬ l[(i + j) / 2] < x := by simpa using c27
    refine f_region ?_
    refine f_stepP rfl rfl rfl (o_move rfl) ?_
    refine f_stepP rfl rfl rfl (o_assign rfl) ?_
    refine f_done ?_
    refine f_bn ?_
    refine f_tn (f_again (i, (i + j) / 2) (by first | omega | (dsimp only; omega) | (simp; omega)) ⟨by omega, by omega, hlo, fun k hk h => Int.le_trans (by omega) (le_rise hs h hk)⟩ ?_ ?_ ?_)
    · exact (by repeat (first | exact trivial | refine ⟨rfl, ?_⟩))
    · exact (by repeat (first | exact trivial | refine ⟨rfl, ?_⟩))
    · repeat (first | exact Sub.nil | refine Sub.pick ?_ | refine Sub.castO rfl ?_ | refine Sub.skip ?_)
  ·
   obtain rfl : i = j := by omega
   have hmem := rise_mem hs hjl hlo hhi
   refine f_exit ?_
   refine f_te ?_
   clear kh5
   refine f_te ?_
   refine f_be ?_
   refine f_tn (kh4 _ _ ?_)
   clear kh4
   refine f_seq fun K9 kh9 => ?_
   refine f_region ?_
   refine f_stepP rfl rfl rfl (o_move rfl) ?_
   refine f_stepP rfl rfl rfl (o_move rfl) ?_
   refine f_stepP rfl rfl rfl (o_move rfl) ?_
   refine f_stepP rfl rfl rfl (o_lss rfl rfl) ?_
   refine f_stepP rfl rfl rfl (o_move rfl) ?_
   refine f_splitL 35 rfl (fun g35 => ?_) (fun g35 => ?_)
   ·
    have hi : i < l.length := by omega
    obtain ⟨b, o, rfl, hS, hc⟩ := hr (map_ne hi)
    refine f_stepPY rfl rfl rfl rfl rfl (o_move rfl) ?_
    refine f_stepPY rfl rfl rfl rfl rfl (o_move rfl) ?_
    refine f_stepPY rfl rfl rfl rfl rfl (o_idx sl25 rfl rfl (o + i) ⟨by omega, by omega, by first | omega | (simp; done) | (simp; omega)⟩) ?_
    refine f_stepPY rfl rfl rfl rfl rfl (o_load Try.isAgg3 rfl (roOne (enc := (.int .i64 ·)) hS hc hi)) ?_
    refine f_stepPY rfl rfl rfl rfl rfl (o_move rfl) ?_
    refine f_stepPY rfl rfl rfl rfl rfl (o_eql rfl rfl) ?_
    refine f_stepPY rfl rfl rfl rfl rfl (o_move rfl) ?_
    refine f_splitL 42 rfl (fun g42 => ?_) (fun g42 => ?_)
    ·
     refine f_stepN rfl rfl rfl rfl rfl rfl ?_
     refine f_stepN rfl rfl rfl rfl rfl rfl ?_
     refine f_stepN rfl rfl rfl rfl rfl rfl ?_
     refine f_stepN rfl rfl rfl rfl rfl rfl ?_
     refine f_stepN rfl rfl rfl rfl rfl rfl ?_
     refine f_stepN rfl rfl rfl rfl rfl rfl ?_
     refine f_stepU rfl rfl rfl rfl rfl ?_
     refine f_stepU rfl rfl rfl rfl rfl ?_
     refine f_stepN rfl rfl rfl rfl rfl rfl ?_
     refine f_stepPY rfl rfl rfl rfl rfl (o_pickT rfl rfl) ?_
     refine f_stepP rfl rfl rfl (o_pickT rfl rfl) ?_
     refine f_stepP rfl rfl rfl (o_assign rfl) ?_
     refine f_stepP rfl rfl rfl (o_assign rfl) ?_
     refine f_done ?_
     refine f_tn (kh9 _ _ ?_)
     clear kh9
     refine f_ret ?_
     exact f_fin2 [] Try.results36 rfl rfl Sub.nil ⟨i, by rw [decide_eq_true (hmem.2 ⟨hi, g42⟩)], rfl, fun _ => by rw [List.getElem?_eq_getElem hi, g42]⟩
    ·
     refine f_stepPY rfl rfl rfl rfl rfl (o_move rfl) ?_
     refine f_stepPY rfl rfl rfl rfl rfl (o_move rfl) ?_
     refine f_stepPY rfl rfl rfl rfl rfl (o_idx sl25 rfl rfl (o + i) ⟨by omega, by omega, by first | omega | (simp; done) | (simp; omega)⟩) ?_
     refine f_stepPY rfl rfl rfl rfl rfl (o_load Try.isAgg3 rfl (roOne (enc := (.int .i64 ·)) hS hc hi)) ?_
     refine f_stepY rfl rfl rfl rfl rfl (o_call Try.call56 rfl (fun w_ hp_ => slNaN_spec l[i] w_) ?_)
     rintro _ _ ⟨rfl, rfl⟩
     dsimp only [List.cons_append, List.nil_append]
     refine f_stepPY rfl rfl rfl rfl rfl (o_move rfl) ?_
     refine f_stepN rfl rfl rfl rfl rfl rfl ?_
     refine f_stepN rfl rfl rfl rfl rfl rfl ?_
     refine f_stepPY rfl rfl rfl rfl rfl (o_pickF rfl rfl) ?_
     refine f_stepPY rfl rfl rfl rfl rfl (o_pickF rfl rfl) ?_
     refine f_stepP rfl rfl rfl (o_pickT rfl rfl) ?_
     refine f_stepP rfl rfl rfl (o_assign rfl) ?_
     refine f_stepP rfl rfl rfl (o_assign rfl) ?_
     refine f_done ?_
     refine f_tn (kh9 _ _ ?_)
     clear kh9
     refine f_ret ?_
     exact f_fin2 [] Try.results36 rfl rfl Sub.nil ⟨i, by rw [decide_eq_false (fun h => g42 (hmem.1 h).2)], rfl, fun h => absurd (hmem.1 h).2 g42⟩
   ·
    refine f_stepN rfl rfl rfl rfl rfl rfl ?_
    refine f_stepN rfl rfl rfl rfl rfl rfl ?_
    refine f_stepN rfl rfl rfl rfl rfl rfl ?_
    refine f_stepN rfl rfl rfl rfl rfl rfl ?_
    refine f_stepN rfl rfl rfl rfl rfl rfl ?_
    refine f_stepN rfl rfl rfl rfl rfl rfl ?_
    refine f_stepN rfl rfl rfl rfl rfl rfl ?_
    refine f_stepU rfl rfl rfl rfl rfl ?_
    refine f_stepU rfl rfl rfl rfl rfl ?_
    refine f_stepU rfl rfl rfl rfl rfl ?_
    refine f_stepU rfl rfl rfl rfl rfl ?_
    refine f_stepU rfl rfl rfl rfl rfl ?_
    refine f_stepU rfl rfl rfl rfl rfl ?_
    refine f_stepU rfl rfl rfl rfl rfl ?_
    refine f_stepU rfl rfl rfl rfl rfl ?_
    refine f_stepU rfl rfl rfl rfl rfl ?_
    refine f_stepN rfl rfl rfl rfl rfl rfl ?_
    refine f_stepP rfl rfl rfl (o_pickF rfl rfl) ?_
    refine f_stepP rfl rfl rfl (o_assign rfl) ?_
    refine f_stepP rfl rfl rfl (o_assign rfl) ?_
    refine f_done ?_
    refine f_tn (kh9 _ _ ?_)
    clear kh9
    refine f_ret ?_
    exact f_fin2 [] Try.results36 rfl rfl Sub.nil ⟨i, by rw [decide_eq_false (fun h => g35 (by have := (hmem.1 h).1; omega))], rfl, fun h => absurd (hmem.1 h).1 (by omega)⟩

set_option maxRecDepth 100000 in
set_option maxHeartbeats 4000000 in
theorem CBoundary_spec (N : Int) (A : Option Addr) (l : List Arc) (cap : Nat) (Ab : Option Addr) (bs : List Int) (cb : Nat) (Ac : Option Addr) (R : List Row) (cc : Nat) (q c : Int) (w : World) (hr : Ro (Fr w []) w A (l.flatMap arcCs)) (hl : l.length ≤ 9223372036854775807) (hN : I64 N) (hok : ∀ x ∈ l, ArcOk x) (hn : NestRo (Fr w []) w Ab bs Ac R) :
    Meets Try.prog 11 [.agg #[.int .i64 N, .slice A l.length cap], .agg #[.slice Ab bs.length cb, .slice Ac R.length cc], .int .i64 q, .int .i64 c] w [] (fun u own' => ∃ (M : List Int) (A' : Option Addr) (c2 : Nat) (m' : Seg), u = .tuple #[.slice A' M.length M.length, .int .i64 (clE N l bs (rowsL R) q c)] ∧ own' = [m'] ∧ Own 3 1 (.slice A' M.length c2) M.length (ints M) m' ∧ (clE N l bs (rowsL R) q c ≠ 0 → M = []) ∧ (clE N l bs (rowsL R) q c = 0 → M = bdL ((rowsL R).getD (q.toNat - 1) []) c l)) := by
 refine f_enter Try.func11 rfl Try.ntmps11 rfl Owns.nil ?_
 refine f_seq fun K1 kh1 => ?_
 refine f_region ?_
 refine f_step rfl rfl rfl (o_box rfl rfl fun b4 => ?_)
 refine f_step rfl rfl rfl (o_box rfl rfl fun b5 => ?_)
 refine f_stepP rfl rfl rfl (o_assign rfl) ?_
 refine f_stepP rfl rfl rfl (o_assign rfl) ?_
 refine f_done ?_
 refine f_tn (kh1 _ _ ?_)
 clear kh1
 refine f_seq fun K2 kh2 => ?_
 refine f_region ?_
 refine f_stepP rfl rfl rfl (o_loadA (vs := [_, _]) Try.isAgg24 Try.sizeOf24 rfl rfl ⟨(rdA rfl), (rdA rfl), trivial⟩) ?_
 refine f_stepP rfl rfl rfl (o_loadA (vs := [_, _]) Try.isAgg28 Try.sizeOf28 rfl rfl ⟨(rdA rfl), (rdA rfl), trivial⟩) ?_
 refine f_stepP rfl rfl rfl (o_move rfl) ?_
 refine f_stepP rfl rfl rfl (o_move rfl) ?_
 refine f_step rfl rfl rfl (o_call Try.call32 rfl (fun w_ hp_ => clooked_spec N A l cap Ab bs cb Ac R cc q c w_ (hr.up0 hp_) hl hN hok (hn.up0 hp_)) ?_)
 rintro _ _ ⟨⟨Ar, L, cr⟩, rfl, rfl, hr1, hr0⟩
 dsimp only [List.cons_append, List.nil_append]
 refine f_stepP rfl rfl rfl (o_move rfl) ?_
 refine f_stepP rfl rfl rfl (o_extract rfl rfl) ?_
 refine f_stepP rfl rfl rfl (o_extract rfl rfl) ?_
 refine f_stepP rfl rfl rfl (o_assign rfl) ?_
 refine f_stepP rfl rfl rfl (o_assign rfl) ?_
 refine f_done ?_
 refine f_tn (kh2 _ _ ?_)
 clear kh2
 refine f_seq fun K3 kh3 => ?_
 refine f_seq fun K4 kh4 => ?_
 refine f_region ?_
 refine f_stepP rfl rfl rfl (o_move rfl) ?_
 refine f_stepP rfl rfl rfl (o_neq rfl rfl) ?_
 refine f_done ?_
 refine f_tn (kh4 _ _ ?_)
 clear kh4
 refine f_cond rfl (fun c24 => ?_) (fun c24 => ?_)
 ·
  refine f_seq fun K5 kh5 => ?_
  refine f_region ?_
  refine f_stepP rfl rfl rfl (o_move rfl) ?_
  refine f_stepP rfl rfl rfl (o_assign rfl) ?_
  refine f_stepP rfl rfl rfl (o_assign rfl) ?_
  refine f_done ?_
  refine f_tn (kh5 _ _ ?_)
  clear kh5
  refine f_ret ?_
  refine f_tr ?_
  have e : clE N l bs (rowsL R) q c = clE N l bs (rowsL R) q c := rfl
  exact f_fin2 [[]] Try.results11 rfl rfl (show Fly.Sub _ [[]] from (by repeat (first | exact Sub.nil | refine Sub.pick ?_ | refine Sub.castO rfl ?_ | refine Sub.skip ?_))) ⟨[], none, 0, [], by rw [e]; rfl, rfl, Own.nil _ _, fun _ => rfl, fun h => absurd (e.symm.trans h) (by simpa using c24)⟩
 ·
  have hcz : clE N l bs (rowsL R) q c = 0 := by simpa using c24
  obtain ⟨n, k, j, hNn, hNo, hqk, hkb, hcj, hjm⟩ := clE_zero hcz
  have hRl := hNo.len
  rw [rowsL_len] at hRl
  have hmany := hNo.many
  obtain ⟨hn1, hn2, hlen, hgd⟩ := gcheck_zero hNo.g
  have hrr := hr0 hcz
  have hrow : _ = L := row_get hrr (by omega)
  rw [show q.toNat - 1 = k by omega] at hrow
  have hkl := hNo.rowlen (k := k) (by omega)
  rw [hrow] at hkl
  have hrm := hn.rows (Ar, L, cr) (List.mem_of_getElem? hrr)
  dsimp only at hrm
  refine f_reC 10 rfl (v := .slice Ar L.length cr) rfl ?_
  refine f_skip ?_
  refine f_tn (kh3 _ _ ?_)
  clear kh3
  refine f_seq fun K6 kh6 => ?_
  refine f_region ?_
  refine f_stepP rfl rfl rfl (o_assign rfl) ?_
  refine f_done ?_
  refine f_tn (kh6 _ _ ?_)
  clear kh6
  refine f_seq fun K7 kh7 => ?_
  refine f_seq fun K8 kh8 => ?_
  refine f_region ?_
  refine f_stepP rfl rfl rfl (o_field fa24_1 rfl) ?_
  refine f_stepP rfl rfl rfl (o_load Try.isAgg22 rfl (rdA rfl)) ?_
  refine f_stepP rfl rfl rfl (o_len sl22 rfl) ?_
  refine f_stepP rfl rfl rfl (o_move rfl) ?_
  refine f_done ?_
  refine f_tn (kh8 _ _ ?_)
  clear kh8
  refine f_block ?_
  refine f_loop (α := Nat × Value × Seg) [3, 10, 27, 28] (fun ⟨i, ov, om⟩ => [(29, .int .i64 (i : Int)), (12, ov)]) (fun ⟨i, ov, om⟩ => [om]) (fun ⟨i, ov, om⟩ => i ≤ l.length ∧ Own 3 1 ov (bdR L c (l.take i)).length (ints (bdR L c (l.take i))) om) (fun ⟨i, ov, om⟩ => l.length - i) (0, .slice none 0 0, []) ?_ ?_ ?_ ?_
  · exact (by repeat (first | exact trivial | refine ⟨rfl, ?_⟩))
  · repeat (first | exact Sub.nil | refine Sub.pick ?_ | refine Sub.castO rfl ?_ | refine Sub.skip ?_)
  · exact ⟨Nat.zero_le _, Own.nil _ _⟩
  ·
   rintro ⟨i, ov, om⟩ ⟨hil, hO⟩
   have hbl := bdR_len L c (l.take i)
   rw [List.length_take, Nat.min_eq_left hil] at hbl
   obtain ⟨Ao, co, rfl, hco⟩ := hO.val
   refine f_seq fun K9 kh9 => ?_
   refine f_region ?_
   refine f_stepP rfl rfl rfl (o_lss rfl rfl) ?_
   refine f_done ?_
   refine f_tn (kh9 _ _ ?_)
   clear kh9
   refine f_seq fun K10 kh10 => ?_
   refine f_cond rfl (fun c30 => ?_) (fun c30 => ?_)
   ·
    have hi : i < l.length := by omega
    obtain ⟨bl, off, rfl, hS, hc⟩ := hr (flat_ne arcCs arcCs_len (by omega) hi)
    have hgi := hgd i hi
    have hsN : l[i].src.toNat < L.length := by omega
    have hdN : l[i].dst.toNat < L.length := by omega
    obtain ⟨br, or, rfl, hSr, hcr⟩ := hrm.1 (fun e => by have := ints_length L; rw [e] at this; simp at this; omega)
    have hnx := bdR_next (L := L) (c := c) hi
    refine f_skip ?_
    refine f_tn (kh10 _ _ ?_)
    clear kh10
    refine f_seq fun K11 kh11 => ?_
    refine f_block ?_
    refine f_seq fun K12 kh12 => ?_
    refine f_region ?_
    refine f_stepP rfl rfl rfl (o_idx sl22 rfl rfl (off + i * 3) ⟨by omega, by omega, by first | omega | (simp; done) | (simp; omega)⟩) ?_
    refine f_stepP rfl rfl rfl (o_loadA (vs := arcCs l[i]) Try.isAgg39 Try.sizeOf39 rfl rfl (roElem arcCs_len hS hc hi)) ?_
    refine f_step rfl rfl rfl (o_alloc Try.zeroValue39 rfl fun b14 => ?_)
    refine f_step0 rfl rfl (o_storeA Try.sizeOf39 rfl rfl rfl rfl (by first | exact Nat.le_of_ble_eq_true rfl | (simp; done) | (simp; omega)) (arcCs l[i]) rfl ?_)
    refine f_done ?_
    refine f_tn (kh12 _ _ ?_)
    clear kh12
    refine f_seq fun K13 kh13 => ?_
    refine f_seq fun K14 kh14 => ?_
    refine f_regionS rfl (by decide +kernel) ?_
    refine f_stillP rfl rfl rfl (o_move rfl) ?_
    refine f_stillP rfl rfl rfl (o_field fa39_0 rfl) ?_
    refine f_stillP rfl rfl rfl (o_load Try.isAgg3 rfl (rdA rfl)) ?_
    refine f_stillP rfl rfl rfl (o_idx sl25 rfl rfl (or + l[i].src.toNat) ⟨by omega, by omega, by first | omega | (simp; done) | (simp; omega)⟩) ?_
    refine f_stillP rfl rfl rfl (o_load Try.isAgg3 rfl (roOne (enc := (.int .i64 ·)) hSr hcr hsN)) ?_
    refine f_stillP rfl rfl rfl (o_move rfl) ?_
    refine f_stillP rfl rfl rfl (o_field fa39_1 rfl) ?_
    refine f_stillP rfl rfl rfl (o_load Try.isAgg3 rfl (rdA rfl)) ?_
    refine f_stillP rfl rfl rfl (o_idx sl25 rfl rfl (or + l[i].dst.toNat) ⟨by omega, by omega, by first | omega | (simp; done) | (simp; omega)⟩) ?_
    refine f_stillP rfl rfl rfl (o_load Try.isAgg3 rfl (roOne (enc := (.int .i64 ·)) hSr hcr hdN)) ?_
    refine f_stillP rfl rfl rfl (o_eql rfl rfl) ?_
    refine f_stillD ?_
    refine f_tn (kh14 _ _ ?_)
    clear kh14
    refine f_cond rfl (fun c43 => ?_) (fun c43 => ?_)
    ·
     have hb : bdOf L c l[i] = [] := by unfold bdOf; rw [getD_at hsN, getD_at hdN, if_pos c43]
     rw [hb, List.append_nil] at hnx
     refine f_exit ?_
     refine f_te ?_
     clear kh13
     refine f_be ?_
     refine f_tn (kh11 _ _ ?_)
     clear kh11
     refine f_region ?_
     refine f_stepP rfl rfl rfl (o_add rfl rfl _ (wrap_i64 (by omega))) ?_
     refine f_stepP rfl rfl rfl (o_move rfl) ?_
     refine f_done ?_
     refine f_tn (f_again (i + 1, .slice Ao (bdR L c (l.take i)).length co, om) (by first | omega | (dsimp only; omega) | (simp; omega)) ⟨by omega, by rw [hnx]; exact hO⟩ ?_ ?_ ?_)
     · exact (by repeat (first | exact trivial | refine ⟨rfl, ?_⟩))
     · exact (by repeat (first | exact trivial | refine ⟨rfl, ?_⟩))
     · repeat (first | exact Sub.nil | refine Sub.pick ?_ | refine Sub.castO rfl ?_ | refine Sub.skip ?_)
    ·
     have hb : bdOf L c l[i] = (if L[l[i].src.toNat] = c then [l[i].src] else []) ++ (if L[l[i].dst.toNat] = c then [l[i].dst] else []) := by unfold bdOf; rw [getD_at hsN, getD_at hdN, if_neg c43]
     refine f_skip ?_
     refine f_tn (kh13 _ _ ?_)
     clear kh13
     refine f_seq fun K15 kh15 => ?_
     refine f_seq fun K16 kh16 => ?_
     refine f_region ?_
     refine f_stepP rfl rfl rfl (o_move rfl) ?_
     refine f_stepP rfl rfl rfl (o_field fa39_0 rfl) ?_
     refine f_stepP rfl rfl rfl (o_load Try.isAgg3 rfl (rdA rfl)) ?_
     refine f_stepP rfl rfl rfl (o_idx sl25 rfl rfl (or + l[i].src.toNat) ⟨by omega, by omega, by first | omega | (simp; done) | (simp; omega)⟩) ?_
     refine f_stepP rfl rfl rfl (o_load Try.isAgg3 rfl (roOne (enc := (.int .i64 ·)) hSr hcr hsN)) ?_
     refine f_stepP rfl rfl rfl (o_move rfl) ?_
     refine f_stepP rfl rfl rfl (o_eql rfl rfl) ?_
     refine f_done ?_
     refine f_tn (kh16 _ _ ?_)
     clear kh16
     refine f_cond rfl (fun c50 => ?_) (fun c50 => ?_)
     ·
      rw [if_pos c50] at hb
      refine f_region ?_
      refine f_stepP rfl rfl rfl (o_move rfl) ?_
      refine f_stepP rfl rfl rfl (o_field fa39_0 rfl) ?_
      refine f_stepP rfl rfl rfl (o_load Try.isAgg3 rfl (rdA rfl)) ?_
      refine f_step rfl rfl rfl (o_slice1 el25 (by omega) rfl rfl rfl fun b54 => ?_)
      refine f_step rfl rfl rfl (o_append el25 rfl rfl hO (ys := [.int .i64 l[i].src]) ⟨(rdA rfl), trivial⟩ rfl rfl (by omega) (by omega) fun v55 m55 o55 => ?_)
      obtain ⟨X1, hX1⟩ : ∃ X1, X1 = bdR L c (l.take i) ++ [l[i].src] := ⟨_, rfl⟩
      have hO1 : Own 3 1 v55 X1.length (ints X1) m55 := by rw [hX1, List.length_append, ints_append]; exact o55
      have hX1l : X1.length ≤ 2 * i + 1 := by rw [hX1, List.length_append, List.length_singleton]; omega
      refine f_stepP rfl rfl rfl (o_assign rfl) ?_
      refine f_done ?_
      refine f_tn (kh15 _ _ ?_)
      clear kh15
      refine f_seq fun K17 kh17 => ?_
      refine f_region ?_
      refine f_stepP rfl rfl rfl (o_move rfl) ?_
      refine f_stepP rfl rfl rfl (o_field fa39_1 rfl) ?_
      refine f_stepP rfl rfl rfl (o_load Try.isAgg3 rfl (rdA rfl)) ?_
      refine f_stepP rfl rfl rfl (o_idx sl25 rfl rfl (or + l[i].dst.toNat) ⟨by omega, by omega, by first | omega | (simp; done) | (simp; omega)⟩) ?_
      refine f_stepP rfl rfl rfl (o_load Try.isAgg3 rfl (roOne (enc := (.int .i64 ·)) hSr hcr hdN)) ?_
      refine f_stepP rfl rfl rfl (o_move rfl) ?_
      refine f_stepP rfl rfl rfl (o_eql rfl rfl) ?_
      refine f_done ?_
      refine f_tn (kh17 _ _ ?_)
      clear kh17
      refine f_cond rfl (fun c62 => ?_) (fun c62 => ?_)
      ·
       rw [if_pos c62] at hb
       rw [hb, ← List.append_assoc, ← hX1] at hnx
       refine f_region ?_
       refine f_stepP rfl rfl rfl (o_move rfl) ?_
       refine f_stepP rfl rfl rfl (o_field fa39_1 rfl) ?_
       refine f_stepP rfl rfl rfl (o_load Try.isAgg3 rfl (rdA rfl)) ?_
       refine f_step rfl rfl rfl (o_slice1 el25 (by omega) rfl rfl rfl fun b66 => ?_)
       refine f_step rfl rfl rfl (o_append el25 rfl rfl hO1 (ys := [.int .i64 l[i].dst]) ⟨(rdA rfl), trivial⟩ rfl rfl (by omega) (by omega) fun v67 m67 o67 => ?_)
       refine f_stepP rfl rfl rfl (o_assign rfl) ?_
       refine f_done ?_
       refine f_bn ?_
       refine f_tn (kh11 _ _ ?_)
       clear kh11
       refine f_region ?_
       refine f_stepP rfl rfl rfl (o_add rfl rfl _ (wrap_i64 (by omega))) ?_
       refine f_stepP rfl rfl rfl (o_move rfl) ?_
       refine f_done ?_
       refine f_tn (f_again (i + 1, v67, m67) (by first | omega | (dsimp only; omega) | (simp; omega)) ⟨by omega, by rw [hnx, List.length_append, ints_append]; exact o67⟩ ?_ ?_ ?_)
       · exact (by repeat (first | exact trivial | refine ⟨rfl, ?_⟩))
       · exact (by repeat (first | exact trivial | refine ⟨rfl, ?_⟩))
       · repeat (first | exact Sub.nil | refine Sub.pick ?_ | refine Sub.castO rfl ?_ | refine Sub.skip ?_)
      ·
       rw [if_neg c62, List.append_nil] at hb
       rw [hb, ← hX1] at hnx
       refine f_skip ?_
       refine f_bn ?_
       refine f_tn (kh11 _ _ ?_)
       clear kh11
       refine f_region ?_
       refine f_stepP rfl rfl rfl (o_add rfl rfl _ (wrap_i64 (by omega))) ?_
       refine f_stepP rfl rfl rfl (o_move rfl) ?_
       refine f_done ?_
       refine f_tn (f_again (i + 1, v55, m55) (by first | omega | (dsimp only; omega) | (simp; omega)) ⟨by omega, by rw [hnx]; exact hO1⟩ ?_ ?_ ?_)
       · exact (by repeat (first | exact trivial | refine ⟨rfl, ?_⟩))
       · exact (by repeat (first | exact trivial | refine ⟨rfl, ?_⟩))
       · repeat (first | exact Sub.nil | refine Sub.pick ?_ | refine Sub.castO rfl ?_ | refine Sub.skip ?_)
     ·
      rw [if_neg c50] at hb
      obtain ⟨X1, hX1⟩ : ∃ X1, X1 = bdR L c (l.take i) ++ [] := ⟨_, rfl⟩
      have hO1 : Own 3 1 (.slice Ao (bdR L c (l.take i)).length co) X1.length (ints X1) om := by rw [hX1, List.append_nil]; exact hO
      have hX1l : X1.length ≤ 2 * i + 1 := by rw [hX1, List.append_nil]; omega
      refine f_skip ?_
      refine f_tn (kh15 _ _ ?_)
      clear kh15
      refine f_seq fun K18 kh18 => ?_
      refine f_region ?_
      refine f_stepP rfl rfl rfl (o_move rfl) ?_
      refine f_stepP rfl rfl rfl (o_field fa39_1 rfl) ?_
      refine f_stepP rfl rfl rfl (o_load Try.isAgg3 rfl (rdA rfl)) ?_
      refine f_stepP rfl rfl rfl (o_idx sl25 rfl rfl (or + l[i].dst.toNat) ⟨by omega, by omega, by first | omega | (simp; done) | (simp; omega)⟩) ?_
      refine f_stepP rfl rfl rfl (o_load Try.isAgg3 rfl (roOne (enc := (.int .i64 ·)) hSr hcr hdN)) ?_
      refine f_stepP rfl rfl rfl (o_move rfl) ?_
      refine f_stepP rfl rfl rfl (o_eql rfl rfl) ?_
      refine f_done ?_
      refine f_tn (kh18 _ _ ?_)
      clear kh18
      refine f_cond rfl (fun c62 => ?_) (fun c62 => ?_)
      ·
       rw [if_pos c62] at hb
       rw [hb, ← List.append_assoc, ← hX1] at hnx
       refine f_region ?_
       refine f_stepP rfl rfl rfl (o_move rfl) ?_
       refine f_stepP rfl rfl rfl (o_field fa39_1 rfl) ?_
       refine f_stepP rfl rfl rfl (o_load Try.isAgg3 rfl (rdA rfl)) ?_
       refine f_step rfl rfl rfl (o_slice1 el25 (by omega) rfl rfl rfl fun b66 => ?_)
       refine f_step rfl rfl rfl (o_append el25 rfl rfl hO1 (ys := [.int .i64 l[i].dst]) ⟨(rdA rfl), trivial⟩ rfl rfl (by omega) (by omega) fun v67 m67 o67 => ?_)
       refine f_stepP rfl rfl rfl (o_assign rfl) ?_
       refine f_done ?_
       refine f_bn ?_
       refine f_tn (kh11 _ _ ?_)
       clear kh11
       refine f_region ?_
       refine f_stepP rfl rfl rfl (o_add rfl rfl _ (wrap_i64 (by omega))) ?_
       refine f_stepP rfl rfl rfl (o_move rfl) ?_
       refine f_done ?_
       refine f_tn (f_again (i + 1, v67, m67) (by first | omega | (dsimp only; omega) | (simp; omega)) ⟨by omega, by rw [hnx, List.length_append, ints_append]; exact o67⟩ ?_ ?_ ?_)
       · exact (by repeat (first | exact trivial | refine ⟨rfl, ?_⟩))
       · exact (by repeat (first | exact trivial | refine ⟨rfl, ?_⟩))
       · repeat (first | exact Sub.nil | refine Sub.pick ?_ | refine Sub.castO rfl ?_ | refine Sub.skip ?_)
      ·
       rw [if_neg c62, List.append_nil] at hb
       rw [hb, ← hX1] at hnx
       refine f_skip ?_
       refine f_bn ?_
       refine f_tn (kh11 _ _ ?_)
       clear kh11
       refine f_region ?_
       refine f_stepP rfl rfl rfl (o_add rfl rfl _ (wrap_i64 (by omega))) ?_
       refine f_stepP rfl rfl rfl (o_move rfl) ?_
       refine f_done ?_
       refine f_tn (f_again (i + 1, .slice Ao (bdR L c (l.take i)).length co, om) (by first | omega | (dsimp only; omega) | (simp; omega)) ⟨by omega, by rw [hnx]; exact hO1⟩ ?_ ?_ ?_)
       · exact (by repeat (first | exact trivial | refine ⟨rfl, ?_⟩))
       · exact (by repeat (first | exact trivial | refine ⟨rfl, ?_⟩))
       · repeat (first | exact Sub.nil | refine Sub.pick ?_ | refine Sub.castO rfl ?_ | refine Sub.skip ?_)
   ·
    obtain rfl : i = l.length := by omega
    rw [List.take_length] at hO hbl hco
    obtain ⟨LO, hLO⟩ : ∃ LO, bdR L c l = LO := ⟨_, rfl⟩
    rw [hLO] at hO hbl hco
    refine f_reC 12 rfl (v := .slice Ao LO.length co) (by rw [List.take_length, hLO]) ?_
    refine f_exit ?_
    refine f_te ?_
    clear kh10
    refine f_te ?_
    refine f_be ?_
    refine f_tn (kh7 _ _ ?_)
    clear kh7
    refine f_seq fun K19 kh19 => ?_
    refine f_region ?_
    refine f_stepP rfl rfl rfl (o_move rfl) ?_
    refine f_step rfl rfl rfl (o_callM [om] _ Try.call33 rfl (by repeat (first | exact Sub.refl | refine Sub.pick ?_)) (fun w_ hp_ => SortInts_spec Ao co LO om w_ hO (by omega) hp_.owns) ?_)
    rintro _ _ ⟨rfl, m2, rfl, ho2⟩
    dsimp only [List.cons_append, List.nil_append]
    refine f_done ?_
    refine f_tn (kh19 _ _ ?_)
    clear kh19
    refine f_seq fun K20 kh20 => ?_
    refine f_region ?_
    refine f_stepP rfl rfl rfl (o_move rfl) ?_
    refine f_step rfl rfl rfl (o_callM [m2] _ Try.call35 rfl (by repeat (first | exact Sub.refl | refine Sub.pick ?_)) (fun w_ hp_ => (by have h := Compact_spec Ao co (sortI LO) m2 w_ (by rw [sortI_len]; exact ho2) (by rw [sortI_len]; omega) hp_.owns; rw [sortI_len] at h; exact h)) ?_)
    rintro v72 _ ⟨m3, rfl, ho3⟩
    obtain ⟨A3, c3, rfl, hc3⟩ := ho3.val
    dsimp only [List.cons_append, List.nil_append]
    refine f_step rfl rfl rfl (o_call Try.call34 rfl (fun w_ hp_ => cut_spec A3 (cpt (sortI LO)).length c3 w_ hc3.1 hc3.2 (own_none ho3)) ?_)
    rintro _ _ ⟨rfl, rfl⟩
    dsimp only [List.cons_append, List.nil_append]
    refine f_stepP rfl rfl rfl (o_assign rfl) ?_
    refine f_stepP rfl rfl rfl (o_assign rfl) ?_
    refine f_done ?_
    refine f_tn (kh20 _ _ ?_)
    clear kh20
    refine f_ret ?_
    have e := hcz
    exact f_fin2 [m3] Try.results11 rfl rfl (by repeat (first | exact Sub.nil | refine Sub.pick ?_ | refine Sub.castO rfl ?_ | refine Sub.skip ?_)) ⟨_, A3, c3, m3, by rw [e], rfl, ho3, fun h => absurd e h, fun _ => by unfold bdL; rw [show q.toNat - 1 = k by omega, hrow, hLO]⟩

end Go.Proofs.Ytkmkakpadgljeaa
