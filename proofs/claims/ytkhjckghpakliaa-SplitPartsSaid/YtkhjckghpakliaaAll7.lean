import Derived.Test.YtkhjckghpakliaaAll4
import Derived.OrdersIn
import Derived.Test.YtkhjckghpakliaaAll3
import Derived.Test.YtkhjckghpakliaaAll6

/- A region that draws its order, within a round or behind marks. -/

namespace Go.Proofs.Ytkhjckghpakliaa.Fly
open Go Go.RowKit
set_option linter.unusedVariables false
set_option linter.unusedSimpArgs false
set_option linter.unusedSectionVars false

def LQ (ds : List Deferred) (Q : Exit → Act → World → Prop) : Exit → Act → World → Prop
  | .normal, a, w => Q .normal { a with defers := a.defers ++ ds } w
  | _, _, _ => False
theorem lq_out {ds : List Deferred} {Q : Exit → Act → World → Prop} : ¬ LetsOut (NoPanics (LQ ds Q)) := by
  rintro ⟨a, w, h⟩; exact h.elim
theorem put_app (a : Act) (ds : List Deferred) (d : Option Tmp) (v : Value) : ({ a with defers := a.defers ++ ds } : Act).put d v = { a.put d v with defers := (a.put d v).defers ++ ds } := by cases d <;> rfl

section
variable {P : Program} {rd : Option Nat} {ds : List Deferred} {Q : Exit → Act → World → Prop}
theorem op_lift {o : Oper} (hn : notDefer o.op = true) {a : Act} {w : World} {K0 K : Act → World → Prop} (hK : ∀ a' w', K0 a' w' → K { a' with defers := a'.defers ++ ds } w')
    (h : o.wp P a w K0 (NoPanics (LQ ds Q))) : o.wpIn (FW rd) 0 P { a with defers := a.defers ++ ds } w K Q := by
  unfold Oper.wp at h
  unfold Oper.wpIn
  refine ⟨fun _ _ => trivial, ?_⟩
  rw [Oper.semAt_eq _ _ _ (fun c hc => by rw [hc] at hn; cases hn), eval_defers]
  generalize (execOp a.eval o).run P w = r at h ⊢
  cases r with
  | halt hh w' => cases hh <;> simp only [Oper.upon] at h <;> exact h.elim
  | ok x w' =>
    cases x with
    | value v => show K _ w'; rw [put_app]; exact hK _ _ h
    | skip => show K _ w'; rw [put_app]; exact hK _ _ h
    | defer d =>
      have h1 : K0 (({ a with defers := d :: a.defers } : Act).put o.dst undef) w' := h
      have h2 := hK _ _ h1
      show K (({ a with defers := d :: (a.defers ++ ds) } : Act).put o.dst undef) w'
      have e : (({ a with defers := d :: (a.defers ++ ds) } : Act).put o.dst undef) = { ({ a with defers := d :: a.defers } : Act).put o.dst undef with defers := (({ a with defers := d :: a.defers } : Act).put o.dst undef).defers ++ ds } := by
        cases o.dst <;> rfl
      rw [e]; exact h2
    | enter f args =>
      have h1 : Calls P f args w' _ := h
      refine ⟨(fun h => by cases h), ?_⟩
      show CallsIn Fence.wide 0 P f args w' _
      refine callsIn_wide.2 (Calls.mono h1 ?_)
      intro e w'' he
      cases e with
      | returned v => show K _ w''; rw [put_app]; exact hK _ _ he
      | panicked ch => exact he.elim
      | outgrown => exact (lq_out he).elim
    | row r args =>
      have h1 : Rows P r args w' _ := h
      refine ⟨(fun h => by cases h), fun c cs _ => ?_⟩
      obtain ⟨v, w'', hv, hst⟩ := h1 c cs
      refine ⟨v, w'', ?_, (stepsIn_wide (P := P)).2 hst⟩
      show K _ w''; rw [put_app]; exact hK _ _ hv
    | round l f tmps assign body => exact h.elim
    | _ => exact h.elim

theorem any_lift {ops : Array Oper} {S : World → Prop} (hn : ops.toList.all (fun o => notDefer o.op) = true) : ∀ (fuel : Nat) (listed : Array Bool) (a : Act) (w : World),
    wpAnyH P .any ops (NoPanics (LQ ds Q)) S fuel listed a w → wpAnyIn (FW rd) 0 P .any ops Q fuel listed { a with defers := a.defers ++ ds } w
  | 0, listed, a, w, h => h
  | fuel + 1, listed, a, w, h => by
    refine ⟨fun e => h.1 e, fun i hi => ?_⟩
    have h2 := h.2 i hi
    unfold wpOp at h2
    unfold wpOpIn
    cases ho : ops[i]? with
    | none => rw [ho] at h2; exact any_lift hn fuel _ _ _ h2.2
    | some o =>
      rw [ho] at h2
      have hno : notDefer o.op = true := by
        have := List.all_eq_true.1 hn o (by rw [← Array.mem_def]; exact Array.mem_of_getElem? ho)
        exact this
      dsimp only at h2 ⊢
      split
      · rename_i hw
        rw [if_pos hw] at h2
        rcases h2 with h2 | h2
        · exact op_lift hno (fun a' w' h' => any_lift hn fuel _ _ _ h'.2) h2
        · exact (lq_out h2.2).elim
      · rename_i hw
        rw [if_neg hw] at h2
        refine ⟨fun _ _ => trivial, ?_⟩
        rw [put_app]; exact any_lift hn fuel _ _ _ h2.2
end

section
variable {P : Program} {n : Nat} {S : Nat → Prop} {w0 : World} {rd : Option Nat} {mk : List Nat} {env : Env} {segs : List Seg} {Q : Exit → Act → World → Prop} {ops : Array Oper} {rest : List Oper} {o : Oper}
theorem r_regionH {id : Nat} {l : List Oper} (base : List Seg) (hm : P.follows .mixedOrders = true) (hn : l.all (fun o => notDefer o.op) = true)
    (h : Wh P n S w0 l.toArray (LQ (coll mk) Q) base l.length (Array.replicate l.length false) env segs) : WcR P n S w0 rd mk Q env segs (.region id l.toArray true) := fun a w ha hp => by
  refine wpIn_region_any hm ?_
  have h1 := h { a with defers := [] } { w with drawn := w.drawn + 1 } ha.base (hp.drew (w.drawn + 1) (Nat.le_succ _))
  have h2 := any_lift (rd := rd) (by simpa using hn) _ _ _ _ h1
  have e : ({ ({ a with defers := [] } : Act) with defers := ({ a with defers := [] } : Act).defers ++ coll mk } : Act) = a := by
    show ({ a with defers := [] ++ coll mk } : Act) = a
    rw [List.nil_append, ← ha.defers]
  rw [e] at h2
  simpa using h2
theorem r_back (h : WqR n S w0 mk (Q .normal) env segs) : Wq n S w0 (LQ (coll mk) Q .normal) env segs := fun a w ha hp => by
  refine h { a with defers := a.defers ++ coll mk } w ⟨ha.size, ?_, ha.get⟩ hp
  show a.defers ++ coll mk = coll mk
  rw [ha.defers, List.nil_append]
end
end Go.Proofs.Ytkhjckghpakliaa.Fly

/- split.CutUp: labels cut up. -/
namespace Go.Proofs.Ytkhjckghpakliaa
open Go Go.RowKit Fly
set_option linter.unusedVariables false
set_option linter.unusedSimpArgs false


theorem reps_boolC (n : Nat) (b : Bool) : (List.replicate n [Value.bool b]).flatten = boolsG (List.replicate n b) := by
  induction n with
  | zero => rfl
  | succ n ih => rw [List.replicate_succ, List.flatten_cons, ih]; rfl
theorem div_at {q t c b : Nat} (hq : q = c * b) (ht : t < b) : (q + t) / b = c := by
  subst hq
  rw [Nat.add_comm, Nat.add_mul_div_right _ _ (by omega), Nat.div_eq_of_lt ht, Nat.zero_add]
theorem putTo_add (vs ord : List Int) (b : Nat) (nx : Int) (out : List Int) (y t : Nat) : putTo vs ord b nx out (y + (t + 1)) = (putTo vs ord b nx out (y + t)).set (putAt vs ord (y + t)) (nx + (((y + t) / b : Nat) : Int)) := rfl
theorem ceil_at {m c b : Nat} (hb : 0 < b) (h1 : m ≤ c * b) (h2 : c * b < m + b) : (m + b - 1) / b = c := by
  refine Nat.div_eq_of_lt_le (by omega) ?_
  rw [Nat.succ_mul]; omega

set_option maxRecDepth 100000 in
set_option maxHeartbeats 4000000 in
theorem CutUp_spec (N : Int) (A B : Option Addr) (l : List Arc) (cap : Nat) (L : List Int) (cb : Nat) (bi : Int) (w : World) (hr : Ro (Fr w []) w A (l.flatMap arcCs)) (hl : l.length ≤ 9223372036854775807) (hN : I64 N) (hok : ∀ x ∈ l, ArcOk x) (hL : Ro (Fr w []) w B (ints L)) (hm : L.length ≤ 9223372036854775807) :
    Meets Try.prog 8 [.agg #[.int .i64 N, .slice A l.length cap], .slice B L.length cb, .int .i64 bi] w [] (fun u own' => ∃ (R : List Int) (A' : Option Addr) (c : Nat) (m' : Seg), u = .tuple #[.slice A' R.length c, .int .i64 (spE N l L bi)] ∧ own' = [m'] ∧ Own 3 1 (.slice A' R.length c) R.length (ints R) m' ∧ (spE N l L bi ≠ 0 → R = []) ∧ (spE N l L bi = 0 → R = cutL l L bi.toNat)) := by
 refine r_enter Try.func8 rfl Try.ntmps8 rfl Owns.nil ?_
 refine r_seq fun K1 kh1 => ?_
 refine r_region ?_
 refine r_step rfl rfl rfl (Does.toR rfl (o_box rfl rfl fun b3 => ?_))
 refine r_stepP rfl rfl rfl rfl (o_assign rfl) ?_
 refine r_stepP rfl rfl rfl rfl (o_assign rfl) ?_
 refine r_done ?_
 refine r_tn (kh1 _ _ _ ?_)
 clear kh1
 refine r_seq fun K2 kh2 => ?_
 refine r_seq fun K3 kh3 => ?_
 refine r_region ?_
 refine r_stepP rfl rfl rfl rfl (o_loadA (vs := [_, _]) Try.isAgg24 Try.sizeOf24 rfl rfl ⟨(rdA rfl), (rdA rfl), trivial⟩) ?_
 refine r_stepP rfl rfl rfl rfl (o_move rfl) ?_
 refine r_stepP rfl rfl rfl rfl (o_move rfl) ?_
 refine r_step rfl rfl rfl (Does.toR rfl (o_call Try.call17 rfl (fun w_ hp_ => splook_spec N A B l cap L cb bi w_ (hr.up0 hp_) hl hN hok (hL.up0 hp_) hm) ?_))
 rintro _ _ ⟨rfl, rfl⟩
 dsimp only [List.cons_append, List.nil_append]
 refine r_stepP rfl rfl rfl rfl (o_assign rfl) ?_
 refine r_done ?_
 refine r_tn (kh3 _ _ _ ?_)
 clear kh3
 refine r_seq fun K4 kh4 => ?_
 refine r_region ?_
 refine r_stepP rfl rfl rfl rfl (o_move rfl) ?_
 refine r_stepP rfl rfl rfl rfl (o_neq rfl rfl) ?_
 refine r_done ?_
 refine r_tn (kh4 _ _ _ ?_)
 clear kh4
 refine r_cond rfl (fun c28 => ?_) (fun c28 => ?_)
 ·
  refine r_seq fun K5 kh5 => ?_
  refine r_region ?_
  refine r_stepP rfl rfl rfl rfl (o_move rfl) ?_
  refine r_stepP rfl rfl rfl rfl (o_assign rfl) ?_
  refine r_stepP rfl rfl rfl rfl (o_assign rfl) ?_
  refine r_done ?_
  refine r_tn (kh5 _ _ _ ?_)
  clear kh5
  refine r_ret ?_
  refine r_tr ?_
  have c28' : spE N l L bi ≠ 0 := by simpa using c28
  exact r_fin2 [[]] Try.results8 rfl rfl (show Fly.Sub _ [[]] from (by repeat (first | exact Sub.nil | refine Sub.pick ?_ | refine Sub.castO rfl ?_ | refine Sub.skip ?_))) ⟨[], none, 0, [], rfl, rfl, Own.nil _ _, fun _ => rfl, fun h => absurd h c28'⟩
 ·
  have hz : spE N l L bi = 0 := by simpa using c28
  obtain ⟨n, rfl, hn1, hn2, hg, hR, hbd⟩ := spE_zero hz
  obtain rfl : L.length = n := (right_parts hR).2
  have hrg := right_range hR hn1
  obtain ⟨b, rfl⟩ : ∃ b : Nat, bi = (b : Int) := ⟨bi.toNat, by omega⟩
  obtain ⟨_, _, hl8, _⟩ := gcheck_zero hg
  refine r_skip ?_
  refine r_tn (kh2 _ _ _ ?_)
  clear kh2
  refine r_seq fun K6 kh6 => ?_
  refine r_region ?_
  refine r_stepP rfl rfl rfl rfl (o_move rfl) ?_
  refine r_step rfl rfl rfl (Does.toR rfl (o_call Try.call18 rfl (fun w_ hp_ => CloneG_spec B L.length (ints L) cb w_ (hL.up0 hp_) (fun e => by rw [e] at hL; obtain ⟨_, _, e', _⟩ := hL (fun e => by have := ints_length L; rw [e] at this; simp at this; omega); cases e') (by rw [ints_length]; omega) (ints_oneG _) (by omega)) ?_))
  rintro v31 _ ⟨m31, rfl, o31⟩
  obtain ⟨bo, co, sp, rfl, rfl⟩ := o31.block (by omega)
  dsimp only [List.cons_append, List.nil_append]
  refine r_step rfl rfl rfl (Does.toR rfl (o_alloc Try.zeroValue25 rfl fun b9 => ?_))
  refine r_step0 rfl rfl (Does.toR rfl (o_store Try.sizeOf25 rfl rfl rfl rfl (by first | exact Nat.le_of_ble_eq_true rfl | (simp; done) | (simp; omega)) _ rfl ?_))
  refine r_done ?_
  refine r_tn (kh6 _ _ _ ?_)
  clear kh6
  refine r_seq fun K7 kh7 => ?_
  refine r_region ?_
  refine r_stepP rfl rfl rfl rfl (o_field fa24_0 rfl) ?_
  refine r_stepP rfl rfl rfl rfl (o_load Try.isAgg3 rfl (rdA rfl)) ?_
  refine r_step rfl rfl rfl (Does.toR rfl (o_alloc Try.zeroValue3 rfl fun b10 => ?_))
  refine r_step0 rfl rfl (Does.toR rfl (o_store Try.sizeOf3 rfl rfl rfl rfl (by first | exact Nat.le_of_ble_eq_true rfl | (simp; done) | (simp; omega)) _ rfl ?_))
  refine r_done ?_
  refine r_tn (kh7 _ _ _ ?_)
  clear kh7
  refine r_seq fun K8 kh8 => ?_
  refine r_seq fun K9 kh9 => ?_
  refine r_region ?_
  refine r_stepP rfl rfl rfl rfl (o_move rfl) ?_
  refine r_step rfl rfl rfl (Does.toR rfl (o_call Try.call19 rfl (fun w_ hp_ => sizes_spec B L cb w_ (hL.up0 hp_) (by omega) (by omega) (fun x hx => by have := hrg x hx; omega)) ?_))
  rintro _ _ ⟨bs, rfl, rfl⟩
  obtain ⟨M, hM⟩ : ∃ M : Nat, (maxL L + 1).toNat = M := ⟨_, rfl⟩
  rw [sizesL, hM]
  rw [hM] at hrg
  have hMn := (hrg L[0] (List.getElem_mem (by omega))).2.2
  dsimp only [List.cons_append, List.nil_append]
  refine r_stepP rfl rfl rfl rfl (o_len sl25 rfl) ?_
  refine r_stepP rfl rfl rfl rfl (o_move rfl) ?_
  refine r_done ?_
  refine r_tn (kh9 _ _ _ ?_)
  clear kh9
  refine r_block ?_
  refine r_loop (α := Nat × List Nat) (fun ⟨j, mk⟩ => mk) [1, 2, 3, 9, 10, 35, 36, 85] (fun ⟨j, mk⟩ => [(37, .int .i64 (j : Int))]) (fun ⟨j, mk⟩ => [mks mk, [(bo, blk (ints (cutTo l L b j).1 ++ sp) 3)], [(b10, blk [.int .i64 ((cutTo l L b j).2)] 3)], [(b9, blk [.slice (some ⟨bo, 0, none⟩) L.length co] 25)], [(bs, blk (ints (szs M L)) 3)], [(b3, blk [.int .i64 (L.length : Int), .slice A l.length cap] 24)]]) (fun ⟨j, mk⟩ => j ≤ M) (fun ⟨j, mk⟩ => M - j) (0, []) rfl ?_ ?_ ?_ ?_
  · exact (by repeat (first | exact trivial | refine ⟨rfl, ?_⟩))
  · repeat (first | exact Sub.nil | refine Sub.pick ?_ | refine Sub.castO rfl ?_ | refine Sub.skip ?_)
  · exact Nat.zero_le _
  ·
   rintro ⟨j, mk⟩ hjM
   dsimp only at hjM ⊢
   refine r_seq fun K10 kh10 => ?_
   refine r_region ?_
   refine r_stepP rfl rfl rfl rfl (o_lss rfl rfl) ?_
   refine r_done ?_
   refine r_tn (kh10 _ _ _ ?_)
   clear kh10
   refine r_seq fun K11 kh11 => ?_
   refine r_cond rfl (fun c38 => ?_) (fun c38 => ?_)
   ·
    have hj : j < M := by omega
    have hcl' := cnt_le L j
    have hnx := cutTo_next (l := l) (b := b) hn2 hl8 (by omega) j
    refine r_skip ?_
    refine r_tn (kh11 _ _ _ ?_)
    clear kh11
    refine r_seq fun K12 kh12 => ?_
    refine r_block ?_
    refine r_seq fun K13 kh13 => ?_
    refine r_region ?_
    refine r_stepP rfl rfl rfl rfl (o_move rfl) ?_
    refine r_stepP rfl rfl rfl rfl (o_idx sl25 rfl rfl (j) ⟨by omega, by omega, by first | omega | (simp; done) | (simp; omega)⟩) ?_
    refine r_stepP rfl rfl rfl rfl (o_load Try.isAgg3 rfl (rdA (v := .int .i64 (cnt L j : Int)) (by rw [ints_get (by rw [szs_len]; exact hj), szs_get hj]))) ?_
    refine r_stepP rfl rfl rfl rfl (o_assign rfl) ?_
    refine r_stepP rfl rfl rfl rfl (o_assign rfl) ?_
    refine r_done ?_
    refine r_tn (kh13 _ _ _ ?_)
    clear kh13
    refine r_seq fun K14 kh14 => ?_
    refine r_seq fun K15 kh15 => ?_
    refine r_region ?_
    refine r_stepP rfl rfl rfl rfl (o_move rfl) ?_
    refine r_stepP rfl rfl rfl rfl (o_move rfl) ?_
    refine r_stepP rfl rfl rfl rfl (o_leq rfl rfl) ?_
    refine r_done ?_
    refine r_tn (kh15 _ _ _ ?_)
    clear kh15
    refine r_cond rfl (fun c44 => ?_) (fun c44 => ?_)
    ·
     refine r_exit ?_
     refine r_te ?_
     clear kh14
     refine r_be ?_
     refine r_tn (kh12 _ _ _ ?_)
     clear kh12
     refine r_region ?_
     refine r_stepP rfl rfl rfl rfl (o_add rfl rfl _ (wrap_i64 (by omega))) ?_
     refine r_stepP rfl rfl rfl rfl (o_move rfl) ?_
     refine r_done ?_
     have hsame : cutTo l L b (j + 1) = cutTo l L b j := if_pos (by omega)
     rw [← hsame]
     refine r_tn (r_again (j + 1, mk) (by first | omega | (dsimp only; omega) | (simp; omega)) rfl (by show j + 1 ≤ M; omega) ?_ ?_ ?_)
     · exact (by repeat (first | exact trivial | refine ⟨rfl, ?_⟩))
     · exact (by repeat (first | exact trivial | refine ⟨rfl, ?_⟩))
     · repeat (first | exact Sub.nil | refine Sub.pick ?_ | refine Sub.castO rfl ?_ | refine Sub.skip ?_)
    ·
     have hck := cut_ok (l := l) hn2 hl8 (show 0 < cnt L j by omega)
     have hop : 0 < (cutOrd l L j).length := List.length_pos_of_mem (hck.all 0 (by have := hck.has; omega))
     have hfew := hck.few
     have hole := hck.olen
     refine r_skip ?_
     refine r_tn (kh14 _ _ _ ?_)
     clear kh14
     refine r_seq fun K16 kh16 => ?_
     refine r_region ?_
     refine r_stepP rfl rfl rfl rfl (o_field fa24_0 rfl) ?_
     refine r_stepP rfl rfl rfl rfl (o_load Try.isAgg3 rfl (rdA rfl)) ?_
     refine r_step rfl rfl rfl (Does.toR rfl (o_make el48 rfl rfl L.length rfl (by omega) (by omega) (boolsG (kpTo L j 0)) (by rw [kpTo_zero]; exact reps_boolC L.length false) fun b47 => ?_))
     refine r_stepP rfl rfl rfl rfl (o_assign rfl) ?_
     refine r_done ?_
     refine r_tn (kh16 _ _ _ ?_)
     clear kh16
     refine r_seq fun K17 kh17 => ?_
     refine r_seq fun K18 kh18 => ?_
     refine r_region ?_
     refine r_stepP rfl rfl rfl rfl (o_move rfl) ?_
     refine r_stepP rfl rfl rfl rfl (o_len sl48 rfl) ?_
     refine r_stepP rfl rfl rfl rfl (o_move rfl) ?_
     refine r_done ?_
     refine r_tn (kh18 _ _ _ ?_)
     clear kh18
     refine r_block ?_
     refine r_loop (α := Nat) (fun k => mk) [1, 2, 3, 9, 10, 11, 13, 20, 35, 36, 37, 49, 85] (fun k => [(50, .int .i64 (k : Int))]) (fun k => [mks mk, [(b47, blk (boolsG (kpTo L j k)) 4)], [(bo, blk (ints (cutTo l L b j).1 ++ sp) 3)], [(b10, blk [.int .i64 ((cutTo l L b j).2)] 3)], [(b9, blk [.slice (some ⟨bo, 0, none⟩) L.length co] 25)], [(bs, blk (ints (szs M L)) 3)], [(b3, blk [.int .i64 (L.length : Int), .slice A l.length cap] 24)]]) (fun k => k ≤ L.length) (fun k => L.length - k) (0) rfl ?_ ?_ ?_ ?_
     · exact (by repeat (first | exact trivial | refine ⟨rfl, ?_⟩))
     · repeat (first | exact Sub.nil | refine Sub.pick ?_ | refine Sub.castO rfl ?_ | refine Sub.skip ?_)
     · exact Nat.zero_le _
     ·
      rintro k hkl
      refine r_envC (e := [(50, _), (1, _), (2, _), (3, _), (9, _), (10, _), (11, _), (13, _), (35, _), (36, _), (37, _), (49, _)]) (by repeat (first | exact trivial | refine ⟨rfl, ?_⟩)) ?_
      refine r_seq fun K19 kh19 => ?_
      refine r_region ?_
      refine r_stepP rfl rfl rfl rfl (o_lss rfl rfl) ?_
      refine r_done ?_
      refine r_tn (kh19 _ _ _ ?_)
      clear kh19
      refine r_seq fun K20 kh20 => ?_
      refine r_cond rfl (fun c51 => ?_) (fun c51 => ?_)
      ·
       have hk : k < L.length := by omega
       obtain ⟨bb, ob, rfl, hSb, hcb⟩ := hL (fun e => by have := ints_length L; rw [e] at this; simp at this; omega)
       refine r_skip ?_
       refine r_tn (kh20 _ _ _ ?_)
       clear kh20
       refine r_seq fun K21 kh21 => ?_
       refine r_block ?_
       refine r_seq fun K22 kh22 => ?_
       refine r_region ?_
       refine r_stepP rfl rfl rfl rfl (o_move rfl) ?_
       refine r_stepP rfl rfl rfl rfl (o_assign rfl) ?_
       refine r_done ?_
       refine r_tn (kh22 _ _ _ ?_)
       clear kh22
       refine r_region ?_
       refine r_stepP rfl rfl rfl rfl (o_move rfl) ?_
       refine r_stepP rfl rfl rfl rfl (o_move rfl) ?_
       refine r_stepP rfl rfl rfl rfl (o_move rfl) ?_
       refine r_stepP rfl rfl rfl rfl (o_move rfl) ?_
       refine r_stepP rfl rfl rfl rfl (o_idx sl25 rfl rfl (ob + k) ⟨by omega, by omega, by first | omega | (simp; done) | (simp; omega)⟩) ?_
       refine r_stepP rfl rfl rfl rfl (o_load Try.isAgg3 rfl (roOne (enc := (.int .i64 ·)) hSb hcb hk)) ?_
       refine r_stepP rfl rfl rfl rfl (o_move rfl) ?_
       refine r_stepP rfl rfl rfl rfl (o_eql rfl rfl) ?_
       refine r_stepP rfl rfl rfl rfl (o_idx sl48 rfl rfl (k) ⟨by omega, by omega, by first | omega | (simp; done) | (simp; omega)⟩) ?_
       refine r_step0 rfl rfl (Does.toR rfl (o_store Try.sizeOf4 rfl rfl rfl rfl (by simp [kpTo_len]; omega) (boolsG (kpTo L j (k + 1))) (by rw [boolsG_set, kpTo_next hk]) ?_))
       refine r_done ?_
       refine r_bn ?_
       refine r_tn (kh21 _ _ _ ?_)
       clear kh21
       refine r_region ?_
       refine r_stepP rfl rfl rfl rfl (o_add rfl rfl _ (wrap_i64 (by omega))) ?_
       refine r_stepP rfl rfl rfl rfl (o_move rfl) ?_
       refine r_done ?_
       refine r_tn (r_again (k + 1) (by first | omega | (dsimp only; omega) | (simp; omega)) rfl (by omega) ?_ ?_ ?_)
       · exact (by repeat (first | exact trivial | refine ⟨rfl, ?_⟩))
       · exact (by repeat (first | exact trivial | refine ⟨rfl, ?_⟩))
       · repeat (first | exact Sub.nil | refine Sub.pick ?_ | refine Sub.castO rfl ?_ | refine Sub.skip ?_)
      ·
       refine r_exit ?_
       refine r_te ?_
       clear kh20
       refine r_te ?_
       refine r_be ?_
       refine r_tn (kh17 _ _ _ ?_)
       clear kh17
       refine r_seq fun K23 kh23 => ?_
       obtain rfl : k = L.length := by omega
       rw [kpTo_all]
       refine r_region ?_
       refine r_stepP rfl rfl rfl rfl (o_loadA (vs := [_, _]) Try.isAgg24 Try.sizeOf24 rfl rfl ⟨(rdA rfl), (rdA rfl), trivial⟩) ?_
       refine r_stepP rfl rfl rfl rfl (o_move rfl) ?_
       refine r_step rfl rfl rfl (Does.toR rfl (o_call Try.call20 rfl (fun w_ hp_ => (by have h := Induced_spec (L.length : Int) A l cap (some ⟨b47, 0, none⟩) (keepL L j) L.length w_ (hr.up0 hp_) (roOwn (b := b47) hp_ (cs := (keepL L j).map .bool) (fun j v hj => hj)) hl hN hok; rw [keepL_len] at h; exact h)) ?_))
       rintro v66 own66 hI
       unfold InducedΦ at hI
       rw [if_neg (by rw [hg]; simp), if_neg (by rw [keepL_len]; simp), if_neg hck.has] at hI
       obtain ⟨sa, sv, sl, ma, mv, ml, rfl, rfl, hoa, hov, hol⟩ := hI
       obtain ⟨Aa, ca, rfl, hca⟩ := hoa.val
       obtain ⟨bv, cv, spv, rfl, rfl⟩ := hov.block (Nat.pos_of_ne_zero hck.has)
       obtain ⟨Al, cl, rfl, hcl⟩ := hol.val
       have hsl := sub_len (keepL L j) l
       dsimp only [List.cons_append, List.nil_append]
       refine r_stepP rfl rfl rfl rfl (o_move rfl) ?_
       refine r_stepP rfl rfl rfl rfl (o_extract rfl rfl) ?_
       refine r_stepP rfl rfl rfl rfl (o_extract rfl rfl) ?_
       refine r_stepP rfl rfl rfl rfl (o_extract rfl rfl) ?_
       refine r_stepP rfl rfl rfl rfl (o_extract rfl rfl) ?_
       refine r_step rfl rfl rfl (Does.toR rfl (o_alloc Try.zeroValue24 rfl fun b15 => ?_))
       refine r_step rfl rfl rfl (Does.toR rfl (o_alloc Try.zeroValue25 rfl fun b16 => ?_))
       refine r_step0 rfl rfl (Does.toR rfl (o_storeA Try.sizeOf24 rfl rfl rfl rfl (by first | exact Nat.le_of_ble_eq_true rfl | (simp; done) | (simp; omega)) [.int .i64 ((cutVs L j).length : Int), .slice Aa (subArcs (keepL L j) l).length ca] rfl ?_))
       refine r_step0 rfl rfl (Does.toR rfl (o_store Try.sizeOf25 rfl rfl rfl rfl (by first | exact Nat.le_of_ble_eq_true rfl | (simp; done) | (simp; omega)) _ rfl ?_))
       refine r_stepP rfl rfl rfl rfl (o_assign rfl) ?_
       refine r_stepP rfl rfl rfl rfl (o_assign rfl) ?_
       refine r_done ?_
       refine r_tn (kh23 _ _ _ ?_)
       clear kh23
       refine r_seq fun K24 kh24 => ?_
       refine r_seq fun K25 kh25 => ?_
       refine r_region ?_
       refine r_stepP rfl rfl rfl rfl (o_move rfl) ?_
       refine r_stepP rfl rfl rfl rfl (o_neq rfl rfl) ?_
       refine r_done ?_
       refine r_tn (kh25 _ _ _ ?_)
       clear kh25
       refine r_condN rfl (by simp) ?_
       refine r_skip ?_
       refine r_tn (kh24 _ _ _ ?_)
       clear kh24
       refine r_seq fun K26 kh26 => ?_
       refine r_region ?_
       refine r_stepP rfl rfl rfl rfl (o_loadA (vs := [_, _]) Try.isAgg24 Try.sizeOf24 rfl rfl ⟨(rdA rfl), (rdA rfl), trivial⟩) ?_
       refine r_step rfl rfl rfl (Does.toR rfl (o_call Try.call21 rfl (fun w_ hp_ => (by have h := Order_spec ((cutVs L j).length : Int) Aa (subArcs (keepL L j) l) ca w_ (seen_ro (hoa.seen hp_)) (by omega) ⟨by omega, by omega⟩ (sub_ok (by rw [keepL_len]; omega) hok); rw [hck.ord] at h; exact h)) ?_))
       rintro _ _ ⟨s76, mo, rfl, rfl, hoo⟩
       dsimp only at hoo ⊢
       obtain ⟨bo2, co2, sp2, rfl, rfl⟩ := hoo.block hop
       obtain ⟨_, _, e2_, hco2⟩ := hoo.val
       cases e2_
       dsimp only [List.cons_append, List.nil_append]
       refine r_stepP rfl rfl rfl rfl (o_move rfl) ?_
       refine r_stepP rfl rfl rfl rfl (o_extract rfl rfl) ?_
       refine r_stepP rfl rfl rfl rfl (o_extract rfl rfl) ?_
       refine r_stepP rfl rfl rfl rfl (o_assign rfl) ?_
       refine r_stepP rfl rfl rfl rfl (o_assign rfl) ?_
       refine r_done ?_
       refine r_tn (kh26 _ _ _ ?_)
       clear kh26
       refine r_seq fun K27 kh27 => ?_
       refine r_seq fun K28 kh28 => ?_
       refine r_region ?_
       refine r_stepP rfl rfl rfl rfl (o_move rfl) ?_
       refine r_stepP rfl rfl rfl rfl (o_neq rfl rfl) ?_
       refine r_done ?_
       refine r_tn (kh28 _ _ _ ?_)
       clear kh28
       refine r_condN rfl (by simp) ?_
       refine r_skip ?_
       refine r_tn (kh27 _ _ _ ?_)
       clear kh27
       refine r_seq fun K29 kh29 => ?_
       refine r_region ?_
       refine r_stepP rfl rfl rfl rfl (o_move rfl) ?_
       refine r_stepP rfl rfl rfl rfl (o_move rfl) ?_
       refine r_step rfl rfl rfl (Does.toR rfl (o_call Try.call22 rfl (fun w_ hp_ => Chunk_spec bo2 (cutOrd l L j).length co2 b w_ (by omega)) ?_))
       rintro _ _ ⟨q1, q2, rfl, rfl⟩
       dsimp only [List.cons_append, List.nil_append]
       refine r_done ?_
       refine r_tn (kh29 _ _ _ ?_)
       clear kh29
       refine r_block ?_
       refine r_range (p := 85) (lb := [.pointer (some ⟨q1, 0, none⟩), .pointer (some ⟨q2, 0, none⟩)]) rfl Try.call34 rfl [[(bo, blk (ints (cutTo l L b j).1 ++ sp) 3)], [(b10, blk [.int .i64 ((cutTo l L b j).2)] 3)], [(b9, blk [.slice (some ⟨bo, 0, none⟩) L.length co] 25)], [(b16, blk [.slice (some ⟨bv, 0, none⟩) (cutVs L j).length cv] 25)], [(bv, blk (ints (cutVs L j) ++ spv) 3)], [(bo2, blk (ints (cutOrd l L j) ++ sp2) 3)]] [[(q1, blk [.slice (some ⟨bo2, 0, none⟩) (cutOrd l L j).length co2] 25)], [(q2, blk [.int .i64 (b : Int)] 3)]] [mks mk, [(bs, blk (ints (szs M L)) 3)], [(b3, blk [.int .i64 (L.length : Int), .slice A l.length cap] 24)]] (by repeat (first | exact Sub.refl | exact Sub.nil | refine Sub.pick ?_ | refine Sub.castO rfl ?_ | refine Sub.skip ?_)) (ckEnc bo2 (cutOrd l L j).length b) (may := ckMay (cutOrd l L j).length b) (Fin := ckFin q1 q2 bo2 (cutOrd l L j).length co2 b) (Stp := ckStp q1 q2 bo2 (cutOrd l L j).length co2 b) (fun w1_ m0_ hp_ => Chunk1_iter q1 q2 bo2 (cutOrd l L j).length co2 b m0_ w1_ ⟨by omega, by omega⟩ (by omega) ⟨by omega, by omega⟩) (fun ys m => ys.length * b < (cutOrd l L j).length + b ∧ ∃ q c : Nat, q = min (ys.length * b) (cutOrd l L j).length ∧ c = ys.length ∧ m = [(bo, blk (ints (putTo (cutVs L j) (cutOrd l L j) b (cutTo l L b j).2 (cutTo l L b j).1 (q)) ++ sp) 3), (b10, blk [.int .i64 ((cutTo l L b j).2 + (c : Int))] 3), (b9, blk [.slice (some ⟨bo, 0, none⟩) L.length co] 25), (b16, blk [.slice (some ⟨bv, 0, none⟩) (cutVs L j).length cv] 25), (bv, blk (ints (cutVs L j) ++ spv) 3), (bo2, blk (ints (cutOrd l L j) ++ sp2) 3)]) (fun _ _ => False) (.ret) (⟨by simp; omega, 0, 0, by simp, rfl, by simp [putTo]⟩) ?_ ?_ ?_
       ·
        intro w1_ l_ d_ ys y m_ hI hmay hfr K_ kh_
        obtain ⟨hlt, q, c, hq, rfl, rfl⟩ := hI
        obtain ⟨hy, hyl⟩ := hmay
        have hyb : ys.length ≤ ys.length * b := Nat.le_mul_of_pos_right _ (by omega)
        obtain rfl : y = q := by omega
        refine r_subC (Sub.op3 (parts := [[(bo, blk (ints (putTo (cutVs L j) (cutOrd l L j) b (cutTo l L b j).2 (cutTo l L b j).1 (y)) ++ sp) 3)], [(b10, blk [.int .i64 ((cutTo l L b j).2 + (ys.length : Int))] 3)], [(b9, blk [.slice (some ⟨bo, 0, none⟩) L.length co] 25)], [(b16, blk [.slice (some ⟨bv, 0, none⟩) (cutVs L j).length cv] 25)], [(bv, blk (ints (cutVs L j) ++ spv) 3)], [(bo2, blk (ints (cutOrd l L j) ++ sp2) 3)]]) (by simp) Sub.refl) ?_
        dsimp only [List.cons_append, List.nil_append]
        refine r_region ?_
        refine r_stepP rfl rfl rfl rfl (o_assign rfl) ?_
        refine r_done ?_
        refine r_tn (kh_ _ _ ?_)
        clear kh_
        refine r_block ?_
        refine r_seq fun K30 kh30 => ?_
        refine r_seq fun K31 kh31 => ?_
        refine r_region ?_
        refine r_stepP rfl rfl rfl rfl (o_move rfl) ?_
        refine r_stepP rfl rfl rfl rfl (o_len sl25 rfl) ?_
        refine r_stepP rfl rfl rfl rfl (o_move rfl) ?_
        refine r_done ?_
        refine r_tn (kh31 _ _ _ ?_)
        clear kh31
        refine r_block ?_
        refine r_loop (α := Nat) (fun t => []) [1, 2, 3, 9, 10, 16, 20, 35, 36, 37, 85, 86, 87] (fun t => [(88, .int .i64 (t : Int))]) (fun t => [[(l_, .loop (d_.rc .busy none))], [(d_.D, .deferred (some []))], [(bo, blk (ints (putTo (cutVs L j) (cutOrd l L j) b (cutTo l L b j).2 (cutTo l L b j).1 (y + t)) ++ sp) 3)], [(b10, blk [.int .i64 ((cutTo l L b j).2 + (ys.length : Int))] 3)], [(b9, blk [.slice (some ⟨bo, 0, none⟩) L.length co] 25)], [(b16, blk [.slice (some ⟨bv, 0, none⟩) (cutVs L j).length cv] 25)], [(bv, blk (ints (cutVs L j) ++ spv) 3)], [(bo2, blk (ints (cutOrd l L j) ++ sp2) 3)]]) (fun t => t ≤ min b ((cutOrd l L j).length - y)) (fun t => min b ((cutOrd l L j).length - y) - t) (0) rfl ?_ ?_ ?_ ?_
        · exact (by repeat (first | exact trivial | refine ⟨rfl, ?_⟩))
        · repeat (first | exact Sub.nil | refine Sub.pick ?_ | refine Sub.castO rfl ?_ | refine Sub.skip ?_)
        · exact Nat.zero_le _
        ·
         rintro t htl
         refine r_envC (e := [(88, _), (1, _), (2, _), (3, _), (9, _), (10, _), (16, _), (20, _), (35, _), (36, _), (37, _), (85, _), (86, _), (87, _)]) (by repeat (first | exact trivial | refine ⟨rfl, ?_⟩)) ?_
         refine r_seq fun K32 kh32 => ?_
         refine r_region ?_
         refine r_stepP rfl rfl rfl rfl (o_lss rfl rfl) ?_
         refine r_done ?_
         refine r_tn (kh32 _ _ _ ?_)
         clear kh32
         refine r_seq fun K33 kh33 => ?_
         refine r_cond rfl (fun c89 => ?_) (fun c89 => ?_)
         ·
          have ht : t < min b ((cutOrd l L j).length - y) := by omega
          obtain ⟨q', hq', hq2, u, hu, ⟨hul, _⟩, hput, _⟩ := hck.at (i := y + t) (by omega)
          have hdiv := div_at (q := y) (t := t) (b := b) hy (by omega)
          have hpn : (putTo (cutVs L j) (cutOrd l L j) b (cutTo l L b j).2 (cutTo l L b j).1 (y + t)).set u ((cutTo l L b j).2 + (ys.length : Int)) = (putTo (cutVs L j) (cutOrd l L j) b (cutTo l L b j).2 (cutTo l L b j).1 (y + (t + 1))) := by rw [putTo_add, hput, hdiv]
          refine r_skip ?_
          refine r_tn (kh33 _ _ _ ?_)
          clear kh33
          refine r_seq fun K34 kh34 => ?_
          refine r_block ?_
          refine r_seq fun K35 kh35 => ?_
          refine r_region ?_
          refine r_stepP rfl rfl rfl rfl (o_idx sl25 rfl rfl (y + t) ⟨by omega, by omega, by first | omega | (simp; done) | (simp; omega)⟩) ?_
          refine r_stepP rfl rfl rfl rfl (o_load Try.isAgg3 rfl (rdA (v := .int .i64 (q' : Int)) (app_get (by rw [ints_get (by omega), hq'])))) ?_
          refine r_stepP rfl rfl rfl rfl (o_assign rfl) ?_
          refine r_done ?_
          refine r_tn (kh35 _ _ _ ?_)
          clear kh35
          refine r_regionH [[(l_, .loop (d_.rc .busy none))], [(d_.D, .deferred (some []))], [(b10, blk [.int .i64 ((cutTo l L b j).2 + (ys.length : Int))] 3)], [(b9, blk [.slice (some ⟨bo, 0, none⟩) L.length co] 25)], [(b16, blk [.slice (some ⟨bv, 0, none⟩) (cutVs L j).length cv] 25)], [(bv, blk (ints (cutVs L j) ++ spv) 3)], [(bo2, blk (ints (cutOrd l L j) ++ sp2) 3)]] rfl (by decide +kernel) ?_
          refine f_take 0 rfl (by decide +kernel) rfl rfl rfl (by repeat (first | exact Sub.nil | refine Sub.pick ?_ | refine Sub.castO rfl ?_ | refine Sub.skip ?_)) (o_load Try.isAgg25 rfl (rdA rfl)) ?_
          refine f_take 1 rfl (by decide +kernel) rfl rfl rfl (by repeat (first | exact Sub.nil | refine Sub.pick ?_ | refine Sub.castO rfl ?_ | refine Sub.skip ?_)) (o_load Try.isAgg25 rfl (rdA rfl)) ?_
          refine f_take 2 rfl (by decide +kernel) rfl rfl rfl (by repeat (first | exact Sub.nil | refine Sub.pick ?_ | refine Sub.castO rfl ?_ | refine Sub.skip ?_)) (o_move rfl) ?_
          refine f_take 3 rfl (by decide +kernel) rfl rfl rfl (by repeat (first | exact Sub.nil | refine Sub.pick ?_ | refine Sub.castO rfl ?_ | refine Sub.skip ?_)) (o_idx sl25 rfl rfl (q') ⟨by omega, by omega, by first | omega | (simp; done) | (simp; omega)⟩) ?_
          refine f_take 4 rfl (by decide +kernel) rfl rfl rfl (by repeat (first | exact Sub.nil | refine Sub.pick ?_ | refine Sub.castO rfl ?_ | refine Sub.skip ?_)) (o_load Try.isAgg3 rfl (rdA (v := .int .i64 (u : Int)) (app_get (by rw [ints_get hq2, hu])))) ?_
          refine f_take 5 rfl (by decide +kernel) rfl rfl rfl (by repeat (first | exact Sub.nil | refine Sub.pick ?_ | refine Sub.castO rfl ?_ | refine Sub.skip ?_)) (o_load Try.isAgg3 rfl (rdA rfl)) ?_
          refine f_take 6 rfl (by decide +kernel) rfl rfl rfl (by repeat (first | exact Sub.nil | refine Sub.pick ?_ | refine Sub.castO rfl ?_ | refine Sub.skip ?_)) (o_idx sl25 rfl rfl (u) ⟨by omega, by omega, by first | omega | (simp; done) | (simp; omega)⟩) ?_
          refine f_only0 7 rfl (by decide +kernel) rfl rfl (o_store Try.sizeOf3 rfl rfl rfl rfl (by rw [List.length_append, ints_length, putTo_len, cutTo_len]; omega) (ints (putTo (cutVs L j) (cutOrd l L j) b (cutTo l L b j).2 (cutTo l L b j).1 (y + (t + 1))) ++ sp) (by rw [← hpn, List.set_append_left _ _ (by rw [ints_length, putTo_len, cutTo_len]; omega)]; simp [ints, List.map_set]) ⟨(by repeat (first | exact Sub.nil | refine Sub.pick ?_ | refine Sub.castO rfl ?_ | refine Sub.skip ?_)), ?_⟩)
          refine f_over (by decide +kernel) ?_
          refine r_back ?_
          refine r_bn ?_
          refine r_tn (kh34 _ _ _ ?_)
          clear kh34
          refine r_region ?_
          refine r_stepP rfl rfl rfl rfl (o_add rfl rfl _ (wrap_i64 (by omega))) ?_
          refine r_stepP rfl rfl rfl rfl (o_move rfl) ?_
          refine r_done ?_
          refine r_tn (r_again (t + 1) (by first | omega | (dsimp only; omega) | (simp; omega)) rfl (by omega) ?_ ?_ ?_)
          · exact (by repeat (first | exact trivial | refine ⟨rfl, ?_⟩))
          · exact (by repeat (first | exact trivial | refine ⟨rfl, ?_⟩))
          · repeat (first | exact Sub.nil | refine Sub.pick ?_ | refine Sub.castO rfl ?_ | refine Sub.skip ?_)
         ·
          refine r_exit ?_
          refine r_te ?_
          clear kh33
          refine r_te ?_
          refine r_be ?_
          refine r_tn (kh30 _ _ _ ?_)
          clear kh30
          refine r_region ?_
          refine r_stepP rfl rfl rfl rfl (o_load Try.isAgg3 rfl (rdA rfl)) ?_
          refine r_stepP rfl rfl rfl rfl (o_add rfl rfl _ (wrap_i64 (by omega))) ?_
          refine r_step0 rfl rfl (Does.toR rfl (o_store Try.sizeOf3 rfl rfl rfl rfl (by first | exact Nat.le_of_ble_eq_true rfl | (simp; done) | (simp; omega)) _ rfl ?_))
          refine r_done ?_
          refine r_bn ?_
          exact r_roundEnd (m' := [(bo, blk (ints (putTo (cutVs L j) (cutOrd l L j) b (cutTo l L b j).2 (cutTo l L b j).1 (y + t)) ++ sp) 3), (b10, blk [.int .i64 ((cutTo l L b j).2 + (ys.length : Int) + 1)] 3), (b9, blk [.slice (some ⟨bo, 0, none⟩) L.length co] 25), (b16, blk [.slice (some ⟨bv, 0, none⟩) (cutVs L j).length cv] 25), (bv, blk (ints (cutVs L j) ++ spv) 3), (bo2, blk (ints (cutOrd l L j) ++ sp2) 3)]) (Sub.reg (out := [[(l_, .loop (d_.rc .busy none))], [(d_.D, .deferred (some []))], [(bo, blk (ints (putTo (cutVs L j) (cutOrd l L j) b (cutTo l L b j).2 (cutTo l L b j).1 (y + t)) ++ sp) 3)], [(b10, blk [.int .i64 ((cutTo l L b j).2 + (ys.length : Int) + 1)] 3)], [(b9, blk [.slice (some ⟨bo, 0, none⟩) L.length co] 25)], [(b16, blk [.slice (some ⟨bv, 0, none⟩) (cutVs L j).length cv] 25)], [(bv, blk (ints (cutVs L j) ++ spv) 3)], [(bo2, blk (ints (cutOrd l L j) ++ sp2) 3)]]) (by repeat (first | exact Sub.nil | refine Sub.pick ?_ | refine Sub.castO rfl ?_ | refine Sub.skip ?_)) (by simp)) ⟨by rw [List.length_append, List.length_singleton, Nat.succ_mul]; omega, y + t, ys.length + 1, by rw [List.length_append, List.length_singleton, Nat.succ_mul]; omega, by simp, by rw [show (cutTo l L b j).2 + ((ys.length + 1 : Nat) : Int) = (cutTo l L b j).2 + (ys.length : Int) + 1 by omega]⟩
       ·
        intro D_ ys m_ o_ hF hI
        obtain ⟨hlt, q, c, hq, rfl, hm_⟩ := hI
        obtain ⟨hF1, rfl⟩ := hF
        obtain rfl : q = (cutOrd l L j).length := by omega
        have hnew : cutTo l L b (j + 1) = ((putTo (cutVs L j) (cutOrd l L j) b (cutTo l L b j).2 (cutTo l L b j).1 ((cutOrd l L j).length)), (cutTo l L b j).2 + ((((cutOrd l L j).length + b - 1) / b : Nat) : Int)) := if_neg (by omega)
        rw [ceil_at (by omega) hF1 hlt] at hnew
        have hm2 : m_ = [(bo, blk (ints (cutTo l L b (j + 1)).1 ++ sp) 3), (b10, blk [.int .i64 ((cutTo l L b (j + 1)).2)] 3), (b9, blk [.slice (some ⟨bo, 0, none⟩) L.length co] 25), (b16, blk [.slice (some ⟨bv, 0, none⟩) (cutVs L j).length cv] 25), (bv, blk (ints (cutVs L j) ++ spv) 3), (bo2, blk (ints (cutOrd l L j) ++ sp2) 3)] := by rw [hm_, hnew]
        subst hm2
        refine r_subQ (Sub.reg (out := [[(D_, .deferred (some []))], mks mk, [(bo, blk (ints (cutTo l L b (j + 1)).1 ++ sp) 3)], [(b10, blk [.int .i64 ((cutTo l L b (j + 1)).2)] 3)], [(b9, blk [.slice (some ⟨bo, 0, none⟩) L.length co] 25)], [(bs, blk (ints (szs M L)) 3)], [(b3, blk [.int .i64 (L.length : Int), .slice A l.length cap] 24)]]) (out' := [mks (D_ :: mk), [(bo, blk (ints (cutTo l L b (j + 1)).1 ++ sp) 3)], [(b10, blk [.int .i64 ((cutTo l L b (j + 1)).2)] 3)], [(b9, blk [.slice (some ⟨bo, 0, none⟩) L.length co] 25)], [(bs, blk (ints (szs M L)) 3)], [(b3, blk [.int .i64 (L.length : Int), .slice A l.length cap] 24)]]) (Sub.op2 (parts := [[(bo, blk (ints (cutTo l L b (j + 1)).1 ++ sp) 3)], [(b10, blk [.int .i64 ((cutTo l L b (j + 1)).2)] 3)], [(b9, blk [.slice (some ⟨bo, 0, none⟩) L.length co] 25)], [(b16, blk [.slice (some ⟨bv, 0, none⟩) (cutVs L j).length cv] 25)], [(bv, blk (ints (cutVs L j) ++ spv) 3)], [(bo2, blk (ints (cutOrd l L j) ++ sp2) 3)]]) (by simp) (by dsimp only [List.cons_append, List.nil_append]; repeat (first | exact Sub.nil | refine Sub.pick ?_ | refine Sub.castO rfl ?_ | refine Sub.skip ?_))) (by simp [mks])) ?_
        refine r_bn ?_
        refine r_bn ?_
        refine r_tn (kh12 _ _ _ ?_)
        clear kh12
        refine r_region ?_
        refine r_stepP rfl rfl rfl rfl (o_add rfl rfl _ (wrap_i64 (by omega))) ?_
        refine r_stepP rfl rfl rfl rfl (o_move rfl) ?_
        refine r_done ?_
        refine r_tn (r_again (j + 1, D_ :: mk) (by first | omega | (dsimp only; omega) | (simp; omega)) rfl (by show j + 1 ≤ M; omega) ?_ ?_ ?_)
        · exact (by repeat (first | exact trivial | refine ⟨rfl, ?_⟩))
        · exact (by repeat (first | exact trivial | refine ⟨rfl, ?_⟩))
        · repeat (first | exact Sub.nil | refine Sub.pick ?_ | refine Sub.castO rfl ?_ | refine Sub.skip ?_)
       ·
        intro D_ ys m_ o_ hF hI
        exact hI.elim
   ·
    obtain rfl : M = j := by omega
    refine r_exit ?_
    refine r_te ?_
    clear kh11
    refine r_te ?_
    refine r_be ?_
    refine r_tn (kh8 _ _ _ ?_)
    clear kh8
    refine r_seq fun K36 kh36 => ?_
    refine r_region ?_
    refine r_stepP rfl rfl rfl rfl (o_load Try.isAgg25 rfl (rdA rfl)) ?_
    refine r_step rfl rfl rfl (Does.toR rfl (o_callM [[(bo, blk (ints (cutTo l L b M).1 ++ sp) 3)]] _ Try.call23 rfl (by repeat (first | exact Sub.refl | refine Sub.pick ?_)) (fun w_ hp_ => (by have h := tidy_spec bo co (cutTo l L b M).1 sp w_ (by rw [cutTo_len]; omega) (by rw [cutTo_len]; omega) (own_intsG o31 (cutTo_len l L b M)) hp_.owns; rw [cutTo_len] at h; exact h)) ?_))
    rintro _ _ ⟨rfl, rfl, o104⟩
    dsimp only [List.cons_append, List.nil_append]
    refine r_done ?_
    refine r_tn (kh36 _ _ _ ?_)
    clear kh36
    refine r_seq fun K37 kh37 => ?_
    refine r_region ?_
    refine r_stepP rfl rfl rfl rfl (o_load Try.isAgg25 rfl (rdA rfl)) ?_
    refine r_stepP rfl rfl rfl rfl (o_assign rfl) ?_
    refine r_stepP rfl rfl rfl rfl (o_assign rfl) ?_
    refine r_done ?_
    refine r_tn (kh37 _ _ _ ?_)
    clear kh37
    refine r_ret ?_
    have hcl : (cutL l L b).length = L.length := by unfold cutL; rw [tdy_len, cutTo_len]
    exact r_fin2 [[(bo, blk (ints (cutL l L b) ++ sp) 3)]] Try.results8 rfl rfl (by rw [cutL, hM]; repeat (first | exact Sub.nil | refine Sub.pick ?_ | refine Sub.castO rfl ?_ | refine Sub.skip ?_)) ⟨cutL l L b, some ⟨bo, 0, none⟩, co, _, by rw [hcl, hz], rfl, (by have := own_intsG (L2 := cutL l L b) o31 hcl; exact this), fun h => absurd hz h, fun _ => rfl⟩

end Go.Proofs.Ytkhjckghpakliaa

/- flyoverlaw09: large, works, bounded, SplitHolds. -/
namespace Go.Proofs.Ytkhjckghpakliaa
open Go Go.RowKit Fly
set_option linter.unusedVariables false
set_option linter.unusedSimpArgs false

set_option maxRecDepth 100000 in
set_option maxHeartbeats 4000000 in
theorem RCheck_spec (N : Int) (A : Option Addr) (l : List Arc) (cap : Nat) (w : World) (hr : Ro (Fr w []) w A (l.flatMap arcCs)) (hl : l.length ≤ 9223372036854775807) (hN : I64 N) (hok : ∀ x ∈ l, ArcOk x) :
    Meets Try.prog 16 [.agg #[.int .i64 N, .slice A l.length cap]] w [] (fun v m => v = .tuple #[.int .i64 (gcheck N l).1, .int .i64 (gcheck N l).2] ∧ m = []) := by
 refine f_enter Try.func16 rfl Try.ntmps16 rfl Owns.nil ?_
 refine f_seq fun K1 kh1 => ?_
 refine f_region ?_
 refine f_step rfl rfl rfl (o_box rfl rfl fun b1 => ?_)
 refine f_stepP rfl rfl rfl (o_assign rfl) ?_
 refine f_stepP rfl rfl rfl (o_assign rfl) ?_
 refine f_done ?_
 refine f_tn (kh1 _ _ ?_)
 clear kh1
 refine f_seq fun K2 kh2 => ?_
 refine f_seq fun K3 kh3 => ?_
 refine f_region ?_
 refine f_stepP rfl rfl rfl (o_field fa24_0 rfl) ?_
 refine f_stepP rfl rfl rfl (o_load Try.isAgg3 rfl (rdA rfl)) ?_
 refine f_stepP rfl rfl rfl (o_lss rfl rfl) ?_
 refine f_stepP rfl rfl rfl (o_move rfl) ?_
 refine f_splitL 9 rfl (fun g9 => ?_) (fun g9 => ?_)
 ·
  refine f_stepN rfl rfl rfl rfl rfl rfl ?_
  refine f_stepN rfl rfl rfl rfl rfl rfl ?_
  refine f_stepN rfl rfl rfl rfl rfl rfl ?_
  refine f_stepP rfl rfl rfl (o_pickT rfl rfl) ?_
  refine f_done ?_
  refine f_tn (kh3 _ _ ?_)
  clear kh3
  refine f_condT rfl ?_
  refine f_seq fun K4 kh4 => ?_
  refine f_region ?_
  refine f_stepP rfl rfl rfl (o_assign rfl) ?_
  refine f_stepP rfl rfl rfl (o_assign rfl) ?_
  refine f_done ?_
  refine f_tn (kh4 _ _ ?_)
  clear kh4
  refine f_ret ?_
  refine f_tr ?_
  exact f_fin2 [] Try.results16 rfl rfl Sub.nil ⟨by rw [gcheck_range (by omega)], rfl⟩
 ·
  refine f_stepPY rfl rfl rfl rfl rfl (o_field fa24_0 rfl) ?_
  refine f_stepPY rfl rfl rfl rfl rfl (o_load Try.isAgg3 rfl (rdA rfl)) ?_
  refine f_stepPY rfl rfl rfl rfl rfl (o_gtr rfl rfl) ?_
  refine f_stepP rfl rfl rfl (o_pickF rfl rfl) ?_
  refine f_done ?_
  refine f_tn (kh3 _ _ ?_)
  clear kh3
  refine f_cond rfl (fun c13 => ?_) (fun c13 => ?_)
  ·
   refine f_seq fun K5 kh5 => ?_
   refine f_region ?_
   refine f_stepP rfl rfl rfl (o_assign rfl) ?_
   refine f_stepP rfl rfl rfl (o_assign rfl) ?_
   refine f_done ?_
   refine f_tn (kh5 _ _ ?_)
   clear kh5
   refine f_ret ?_
   refine f_tr ?_
   exact f_fin2 [] Try.results16 rfl rfl Sub.nil ⟨by rw [gcheck_range (by omega)], rfl⟩
  ·
   have hN1 : 1 ≤ N ∧ N ≤ 1024 := by omega
   refine f_skip ?_
   refine f_tn (kh2 _ _ ?_)
   clear kh2
   refine f_seq fun K6 kh6 => ?_
   refine f_seq fun K7 kh7 => ?_
   refine f_region ?_
   refine f_stepP rfl rfl rfl (o_field fa24_1 rfl) ?_
   refine f_stepP rfl rfl rfl (o_load Try.isAgg22 rfl (rdA rfl)) ?_
   refine f_stepP rfl rfl rfl (o_len sl22 rfl) ?_
   refine f_stepP rfl rfl rfl (o_gtr rfl rfl) ?_
   refine f_done ?_
   refine f_tn (kh7 _ _ ?_)
   clear kh7
   refine f_cond rfl (fun c17 => ?_) (fun c17 => ?_)
   ·
    refine f_seq fun K8 kh8 => ?_
    refine f_region ?_
    refine f_stepP rfl rfl rfl (o_assign rfl) ?_
    refine f_stepP rfl rfl rfl (o_assign rfl) ?_
    refine f_done ?_
    refine f_tn (kh8 _ _ ?_)
    clear kh8
    refine f_ret ?_
    refine f_tr ?_
    exact f_fin2 [] Try.results16 rfl rfl Sub.nil ⟨by rw [gcheck_long hN1 (by omega)], rfl⟩
   ·
    refine f_skip ?_
    refine f_tn (kh6 _ _ ?_)
    clear kh6
    refine f_seq fun K9 kh9 => ?_
    refine f_seq fun K10 kh10 => ?_
    refine f_region ?_
    refine f_stepP rfl rfl rfl (o_assign rfl) ?_
    refine f_done ?_
    refine f_tn (kh10 _ _ ?_)
    clear kh10
    refine f_block ?_
    refine f_loop (α := Nat) [1] (fun k => [(4, .int .i64 (k : Int))]) (fun k => [[(b1, blk [.int .i64 N, .slice A l.length cap] 24)]]) (fun k => k ≤ l.length ∧ ∀ j (h : j < l.length), j < k → arcBad N l[j] = false) (fun k => l.length - k) (0) ?_ ?_ ?_ ?_
    · exact (by repeat (first | exact trivial | refine ⟨rfl, ?_⟩))
    · repeat (first | exact Sub.nil | refine Sub.pick ?_ | refine Sub.castO rfl ?_ | refine Sub.skip ?_)
    · exact ⟨by omega, fun j h hj => by omega⟩
    ·
     rintro k ⟨hkl, hall⟩
     refine f_seq fun K11 kh11 => ?_
     refine f_seq fun K12 kh12 => ?_
     refine f_region ?_
     refine f_stepP rfl rfl rfl (o_move rfl) ?_
     refine f_stepP rfl rfl rfl (o_field fa24_1 rfl) ?_
     refine f_stepP rfl rfl rfl (o_load Try.isAgg22 rfl (rdA rfl)) ?_
     refine f_stepP rfl rfl rfl (o_len sl22 rfl) ?_
     refine f_stepP rfl rfl rfl (o_lss rfl rfl) ?_
     refine f_done ?_
     refine f_tn (kh12 _ _ ?_)
     clear kh12
     refine f_cond rfl (fun c22 => ?_) (fun c22 => ?_)
     ·
      refine f_skip ?_
      refine f_tn (kh11 _ _ ?_)
      clear kh11
      refine f_seq fun K13 kh13 => ?_
      refine f_block ?_
      refine f_seq fun K14 kh14 => ?_
      refine f_region ?_
      refine f_stepP rfl rfl rfl (o_field fa24_1 rfl) ?_
      refine f_stepP rfl rfl rfl (o_load Try.isAgg22 rfl (rdA rfl)) ?_
      refine f_stepP rfl rfl rfl (o_move rfl) ?_
      have hk : k < l.length := by omega
      obtain ⟨b, off, rfl, hS, hc⟩ := hr (flat_ne arcCs arcCs_len (by omega) hk)
      refine f_stepP rfl rfl rfl (o_idx sl22 rfl rfl (off + k * 3) ⟨by omega, by omega, by first | omega | (simp; done) | (simp; omega)⟩) ?_
      refine f_stepP rfl rfl rfl (o_loadA (vs := arcCs l[k]) Try.isAgg44 Try.sizeOf44 rfl rfl (roElem arcCs_len hS hc hk)) ?_
      refine f_step rfl rfl rfl (o_alloc Try.zeroValue44 rfl fun b5 => ?_)
      refine f_step0 rfl rfl (o_storeA Try.sizeOf44 rfl rfl rfl rfl (by first | exact Nat.le_of_ble_eq_true rfl | (simp; done) | (simp; omega)) (arcCs l[k]) rfl ?_)
      refine f_done ?_
      refine f_tn (kh14 _ _ ?_)
      clear kh14
      refine f_seq fun K15 kh15 => ?_
      refine f_region ?_
      refine f_stepP rfl rfl rfl (o_field fa44_0 rfl) ?_
      refine f_stepP rfl rfl rfl (o_load Try.isAgg3 rfl (rdA rfl)) ?_
      refine f_stepP rfl rfl rfl (o_lss rfl rfl) ?_
      refine f_stepP rfl rfl rfl (o_move rfl) ?_
      refine f_splitL 33 rfl (fun g33 => ?_) (fun g33 => ?_)
      ·
       refine f_stepN rfl rfl rfl rfl rfl rfl ?_
       refine f_stepN rfl rfl rfl rfl rfl rfl ?_
       refine f_stepN rfl rfl rfl rfl rfl rfl ?_
       refine f_stepN rfl rfl rfl rfl rfl rfl ?_
       refine f_stepN rfl rfl rfl rfl rfl rfl ?_
       refine f_stepP rfl rfl rfl (o_pickT rfl rfl) ?_
       refine f_stepP rfl rfl rfl (o_move rfl) ?_
       refine f_stepN rfl rfl rfl rfl rfl rfl ?_
       refine f_stepN rfl rfl rfl rfl rfl rfl ?_
       refine f_stepN rfl rfl rfl rfl rfl rfl ?_
       refine f_stepP rfl rfl rfl (o_pickT rfl rfl) ?_
       refine f_stepP rfl rfl rfl (o_move rfl) ?_
       refine f_stepN rfl rfl rfl rfl rfl rfl ?_
       refine f_stepN rfl rfl rfl rfl rfl rfl ?_
       refine f_stepN rfl rfl rfl rfl rfl rfl ?_
       refine f_stepN rfl rfl rfl rfl rfl rfl ?_
       refine f_stepN rfl rfl rfl rfl rfl rfl ?_
       refine f_stepP rfl rfl rfl (o_pickT rfl rfl) ?_
       refine f_done ?_
       refine f_tn (kh15 _ _ ?_)
       clear kh15
       refine f_condT rfl ?_
       refine f_seq fun K16 kh16 => ?_
       refine f_region ?_
       refine f_stepP rfl rfl rfl (o_move rfl) ?_
       refine f_stepP rfl rfl rfl (o_assign rfl) ?_
       refine f_stepP rfl rfl rfl (o_assign rfl) ?_
       refine f_done ?_
       refine f_tn (kh16 _ _ ?_)
       clear kh16
       refine f_ret ?_
       refine f_br ?_
       refine f_tr ?_
       refine f_tr ?_
       refine f_br ?_
       refine f_tr ?_
       exact f_fin2 [] Try.results16 rfl rfl Sub.nil ⟨by rw [gcheck_bad hN1 (by omega) hk hall (by unfold arcBad; simp; omega)], rfl⟩
      ·
       refine f_stepPY rfl rfl rfl rfl rfl (o_field fa44_0 rfl) ?_
       refine f_stepPY rfl rfl rfl rfl rfl (o_load Try.isAgg3 rfl (rdA rfl)) ?_
       refine f_stepPY rfl rfl rfl rfl rfl (o_field fa24_0 rfl) ?_
       refine f_stepPY rfl rfl rfl rfl rfl (o_load Try.isAgg3 rfl (rdA rfl)) ?_
       refine f_stepPY rfl rfl rfl rfl rfl (o_geq rfl rfl) ?_
       refine f_stepP rfl rfl rfl (o_pickF rfl rfl) ?_
       refine f_stepP rfl rfl rfl (o_move rfl) ?_
       refine f_splitL 40 rfl (fun g40 => ?_) (fun g40 => ?_)
       ·
        refine f_stepN rfl rfl rfl rfl rfl rfl ?_
        refine f_stepN rfl rfl rfl rfl rfl rfl ?_
        refine f_stepN rfl rfl rfl rfl rfl rfl ?_
        refine f_stepP rfl rfl rfl (o_pickT rfl rfl) ?_
        refine f_stepP rfl rfl rfl (o_move rfl) ?_
        refine f_stepN rfl rfl rfl rfl rfl rfl ?_
        refine f_stepN rfl rfl rfl rfl rfl rfl ?_
        refine f_stepN rfl rfl rfl rfl rfl rfl ?_
        refine f_stepN rfl rfl rfl rfl rfl rfl ?_
        refine f_stepN rfl rfl rfl rfl rfl rfl ?_
        refine f_stepP rfl rfl rfl (o_pickT rfl rfl) ?_
        refine f_done ?_
        refine f_tn (kh15 _ _ ?_)
        clear kh15
        refine f_condT rfl ?_
        refine f_seq fun K17 kh17 => ?_
        refine f_region ?_
        refine f_stepP rfl rfl rfl (o_move rfl) ?_
        refine f_stepP rfl rfl rfl (o_assign rfl) ?_
        refine f_stepP rfl rfl rfl (o_assign rfl) ?_
        refine f_done ?_
        refine f_tn (kh17 _ _ ?_)
        clear kh17
        refine f_ret ?_
        refine f_br ?_
        refine f_tr ?_
        refine f_tr ?_
        refine f_br ?_
        refine f_tr ?_
        exact f_fin2 [] Try.results16 rfl rfl Sub.nil ⟨by rw [gcheck_bad hN1 (by omega) hk hall (by unfold arcBad; simp; omega)], rfl⟩
       ·
        refine f_stepPY rfl rfl rfl rfl rfl (o_field fa44_1 rfl) ?_
        refine f_stepPY rfl rfl rfl rfl rfl (o_load Try.isAgg3 rfl (rdA rfl)) ?_
        refine f_stepPY rfl rfl rfl rfl rfl (o_lss rfl rfl) ?_
        refine f_stepP rfl rfl rfl (o_pickF rfl rfl) ?_
        refine f_stepP rfl rfl rfl (o_move rfl) ?_
        refine f_splitL 45 rfl (fun g45 => ?_) (fun g45 => ?_)
        ·
         refine f_stepN rfl rfl rfl rfl rfl rfl ?_
         refine f_stepN rfl rfl rfl rfl rfl rfl ?_
         refine f_stepN rfl rfl rfl rfl rfl rfl ?_
         refine f_stepN rfl rfl rfl rfl rfl rfl ?_
         refine f_stepN rfl rfl rfl rfl rfl rfl ?_
         refine f_stepP rfl rfl rfl (o_pickT rfl rfl) ?_
         refine f_done ?_
         refine f_tn (kh15 _ _ ?_)
         clear kh15
         refine f_condT rfl ?_
         refine f_seq fun K18 kh18 => ?_
         refine f_region ?_
         refine f_stepP rfl rfl rfl (o_move rfl) ?_
         refine f_stepP rfl rfl rfl (o_assign rfl) ?_
         refine f_stepP rfl rfl rfl (o_assign rfl) ?_
         refine f_done ?_
         refine f_tn (kh18 _ _ ?_)
         clear kh18
         refine f_ret ?_
         refine f_br ?_
         refine f_tr ?_
         refine f_tr ?_
         refine f_br ?_
         refine f_tr ?_
         exact f_fin2 [] Try.results16 rfl rfl Sub.nil ⟨by rw [gcheck_bad hN1 (by omega) hk hall (by unfold arcBad; simp; omega)], rfl⟩
        ·
         refine f_stepPY rfl rfl rfl rfl rfl (o_field fa44_1 rfl) ?_
         refine f_stepPY rfl rfl rfl rfl rfl (o_load Try.isAgg3 rfl (rdA rfl)) ?_
         refine f_stepPY rfl rfl rfl rfl rfl (o_field fa24_0 rfl) ?_
         refine f_stepPY rfl rfl rfl rfl rfl (o_load Try.isAgg3 rfl (rdA rfl)) ?_
         refine f_stepPY rfl rfl rfl rfl rfl (o_geq rfl rfl) ?_
         refine f_stepP rfl rfl rfl (o_pickF rfl rfl) ?_
         refine f_done ?_
         refine f_tn (kh15 _ _ ?_)
         clear kh15
         refine f_cond rfl (fun c51 => ?_) (fun c51 => ?_)
         ·
          refine f_seq fun K19 kh19 => ?_
          refine f_region ?_
          refine f_stepP rfl rfl rfl (o_move rfl) ?_
          refine f_stepP rfl rfl rfl (o_assign rfl) ?_
          refine f_stepP rfl rfl rfl (o_assign rfl) ?_
          refine f_done ?_
          refine f_tn (kh19 _ _ ?_)
          clear kh19
          refine f_ret ?_
          refine f_br ?_
          refine f_tr ?_
          refine f_tr ?_
          refine f_br ?_
          refine f_tr ?_
          exact f_fin2 [] Try.results16 rfl rfl Sub.nil ⟨by rw [gcheck_bad hN1 (by omega) hk hall (by unfold arcBad; simp; omega)], rfl⟩
         ·
          refine f_skip ?_
          refine f_bn ?_
          refine f_tn (kh13 _ _ ?_)
          clear kh13
          refine f_region ?_
          refine f_stepP rfl rfl rfl (o_move rfl) ?_
          refine f_stepP rfl rfl rfl (o_add rfl rfl _ (wrap_i64 (by omega))) ?_
          refine f_stepP rfl rfl rfl (o_assign rfl) ?_
          refine f_done ?_
          refine f_tn (f_again (k + 1) (by first | omega | (dsimp only; omega) | (simp; omega)) ⟨by omega, good_next hall (by unfold arcBad; simp; omega)⟩ ?_ ?_ ?_)
          · exact (by repeat (first | exact trivial | refine ⟨rfl, ?_⟩))
          · exact (by repeat (first | exact trivial | refine ⟨rfl, ?_⟩))
          · repeat (first | exact Sub.nil | refine Sub.pick ?_ | refine Sub.castO rfl ?_ | refine Sub.skip ?_)
     ·
      refine f_exit ?_
      refine f_te ?_
      clear kh11
      refine f_te ?_
      refine f_be ?_
      refine f_tn (kh9 _ _ ?_)
      clear kh9
      refine f_seq fun K20 kh20 => ?_
      refine f_region ?_
      refine f_stepP rfl rfl rfl (o_assign rfl) ?_
      refine f_stepP rfl rfl rfl (o_assign rfl) ?_
      refine f_done ?_
      refine f_tn (kh20 _ _ ?_)
      clear kh20
      refine f_ret ?_
      exact f_fin2 [] Try.results16 rfl rfl Sub.nil ⟨by rw [gcheck_ok hN1 (by omega) (fun j h => hall j h (by omega))], rfl⟩

set_option maxRecDepth 100000 in
set_option maxHeartbeats 4000000 in
theorem large_spec (N : Int) (A : Option Addr) (l : List Arc) (cap : Nat) (w : World) (hr : Ro (Fr w []) w A (l.flatMap arcCs)) (hl : l.length ≤ 9223372036854775807) (hN : I64 N) (hok : ∀ x ∈ l, ArcOk x) :
    Meets Try.prog 7 [.agg #[.int .i64 N, .slice A l.length cap]] w [] (fun u m => ∃ b, u = .bool b ∧ m = []) := by
 refine f_enter Try.func7 rfl Try.ntmps7 rfl Owns.nil ?_
 refine f_seq fun K1 kh1 => ?_
 refine f_region ?_
 refine f_step rfl rfl rfl (o_box rfl rfl fun b1 => ?_)
 refine f_stepP rfl rfl rfl (o_assign rfl) ?_
 refine f_done ?_
 refine f_tn (kh1 _ _ ?_)
 clear kh1
 refine f_seq fun K2 kh2 => ?_
 refine f_region ?_
 refine f_stepP rfl rfl rfl (o_loadA (vs := [_, _]) Try.isAgg24 Try.sizeOf24 rfl rfl ⟨(rdA rfl), (rdA rfl), trivial⟩) ?_
 refine f_step rfl rfl rfl (o_call Try.call16 rfl (fun w_ hp_ => RCheck_spec N A l cap w_ (hr.up0 hp_) hl hN hok) ?_)
 rintro _ _ ⟨rfl, rfl⟩
 dsimp only [List.cons_append, List.nil_append]
 refine f_stepP rfl rfl rfl (o_move rfl) ?_
 refine f_stepP rfl rfl rfl (o_extract rfl rfl) ?_
 refine f_stepP rfl rfl rfl (o_extract rfl rfl) ?_
 refine f_stepP rfl rfl rfl (o_assign rfl) ?_
 refine f_stepP rfl rfl rfl (o_assign rfl) ?_
 refine f_done ?_
 refine f_tn (kh2 _ _ ?_)
 clear kh2
 refine f_seq fun K3 kh3 => ?_
 refine f_region ?_
 refine f_stepP rfl rfl rfl (o_move rfl) ?_
 refine f_stepP rfl rfl rfl (o_eql rfl rfl) ?_
 refine f_stepP rfl rfl rfl (o_move rfl) ?_
 refine f_splitL 12 rfl (fun g12 => ?_) (fun g12 => ?_)
 ·
  refine f_stepPY rfl rfl rfl rfl rfl (o_field fa24_0 rfl) ?_
  refine f_stepPY rfl rfl rfl rfl rfl (o_load Try.isAgg3 rfl (rdA rfl)) ?_
  refine f_stepPY rfl rfl rfl rfl rfl (o_gtr rfl rfl) ?_
  refine f_stepPY rfl rfl rfl rfl rfl (o_move rfl) ?_
  refine f_splitL 16 rfl (fun g16 => ?_) (fun g16 => ?_)
  ·
   refine f_stepN rfl rfl rfl rfl rfl rfl ?_
   refine f_stepN rfl rfl rfl rfl rfl rfl ?_
   refine f_stepN rfl rfl rfl rfl rfl rfl ?_
   refine f_stepN rfl rfl rfl rfl rfl rfl ?_
   refine f_stepPY rfl rfl rfl rfl rfl (o_pickT rfl rfl) ?_
   refine f_stepP rfl rfl rfl (o_pickT rfl rfl) ?_
   refine f_stepP rfl rfl rfl (o_assign rfl) ?_
   refine f_done ?_
   refine f_tn (kh3 _ _ ?_)
   clear kh3
   refine f_ret ?_
   exact f_fin1 [] Try.results7 rfl Sub.nil ⟨_, rfl, rfl⟩
  ·
   refine f_stepPY rfl rfl rfl rfl rfl (o_field fa24_1 rfl) ?_
   refine f_stepPY rfl rfl rfl rfl rfl (o_load Try.isAgg22 rfl (rdA rfl)) ?_
   refine f_stepPY rfl rfl rfl rfl rfl (o_len sl22 rfl) ?_
   refine f_stepPY rfl rfl rfl rfl rfl (o_gtr rfl rfl) ?_
   refine f_stepPY rfl rfl rfl rfl rfl (o_pickF rfl rfl) ?_
   refine f_stepP rfl rfl rfl (o_pickT rfl rfl) ?_
   refine f_stepP rfl rfl rfl (o_assign rfl) ?_
   refine f_done ?_
   refine f_tn (kh3 _ _ ?_)
   clear kh3
   refine f_ret ?_
   exact f_fin1 [] Try.results7 rfl Sub.nil ⟨_, rfl, rfl⟩
 ·
  refine f_stepN rfl rfl rfl rfl rfl rfl ?_
  refine f_stepN rfl rfl rfl rfl rfl rfl ?_
  refine f_stepN rfl rfl rfl rfl rfl rfl ?_
  refine f_stepN rfl rfl rfl rfl rfl rfl ?_
  refine f_stepU rfl rfl rfl rfl rfl ?_
  refine f_stepU rfl rfl rfl rfl rfl ?_
  refine f_stepU rfl rfl rfl rfl rfl ?_
  refine f_stepU rfl rfl rfl rfl rfl ?_
  refine f_stepN rfl rfl rfl rfl rfl rfl ?_
  refine f_stepP rfl rfl rfl (o_pickF rfl rfl) ?_
  refine f_stepP rfl rfl rfl (o_assign rfl) ?_
  refine f_done ?_
  refine f_tn (kh3 _ _ ?_)
  clear kh3
  refine f_ret ?_
  exact f_fin1 [] Try.results7 rfl Sub.nil ⟨_, rfl, rfl⟩

set_option maxRecDepth 100000 in
set_option maxHeartbeats 4000000 in
theorem works_spec (w : World) : Meets Try.prog 6 [] w [] (fun u m => u = .bool true ∧ m = []) := by
 refine f_enter Try.func6 rfl Try.ntmps6 rfl Owns.nil ?_
 refine f_seq fun K1 kh1 => ?_
 refine f_region ?_
 refine f_stepP rfl rfl rfl (o_assign rfl) ?_
 refine f_done ?_
 refine f_tn (kh1 _ _ ?_)
 clear kh1
 refine f_seq fun K2 kh2 => ?_
 refine f_region ?_
 refine f_stepP rfl rfl rfl (o_build st44 rfl rfl) ?_
 refine f_stepP rfl rfl rfl (o_build st44 rfl rfl) ?_
 refine f_stepP rfl rfl rfl (o_build st44 rfl rfl) ?_
 refine f_stepP rfl rfl rfl (o_build st44 rfl rfl) ?_
 refine f_step rfl rfl rfl (o_sliceN (len := 4) el22 (by omega) rfl rfl fun b10 => ?_)
 refine f_stepP rfl rfl rfl (o_build st24 rfl rfl) ?_
 refine f_step rfl rfl rfl (o_alloc Try.zeroValue24 rfl fun b1 => ?_)
 refine f_step0 rfl rfl (o_storeA Try.sizeOf24 rfl rfl rfl rfl (by first | exact Nat.le_of_ble_eq_true rfl | (simp; done) | (simp; omega)) _ rfl ?_)
 refine f_done ?_
 refine f_tn (kh2 _ _ ?_)
 clear kh2
 refine f_seq fun K3 kh3 => ?_
 refine f_region ?_
 refine f_stepP rfl rfl rfl (o_loadA (vs := [_, _]) Try.isAgg24 Try.sizeOf24 rfl rfl ⟨(rdA rfl), (rdA rfl), trivial⟩) ?_
 refine f_step rfl rfl rfl (o_sliceN (len := 5) el25 (by omega) rfl rfl fun b14 => ?_)
 refine f_step rfl rfl rfl (o_call Try.call8 rfl (fun w_ hp_ => CutUp_spec 5 (some ⟨b10, 0, none⟩) (some ⟨b14, 0, none⟩) wg9 4 [0, 0, 0, 0, 0] 5 2 w_ (roOwn (b := b10) hp_ (cs := wg9.flatMap arcCs) (fun j v hj => hj)) (by decide) (by decide) wg9Ok (roOwn (b := b14) hp_ (cs := ints [0, 0, 0, 0, 0]) (fun j v hj => hj)) (by decide)) ?_)
 rintro _ _ ⟨R1, A1, c1, m1, rfl, rfl, ho1, _, h15⟩
 obtain rfl : R1 = [0, 0, 1, 1, 2] := (h15 w9SpE).trans w9Cut
 rw [w9SpE]
 dsimp only [List.cons_append, List.nil_append]
 refine f_stepP rfl rfl rfl (o_move rfl) ?_
 refine f_stepP rfl rfl rfl (o_extract rfl rfl) ?_
 refine f_stepP rfl rfl rfl (o_extract rfl rfl) ?_
 refine f_stepP rfl rfl rfl (o_assign rfl) ?_
 refine f_stepP rfl rfl rfl (o_assign rfl) ?_
 refine f_done ?_
 refine f_tn (kh3 _ _ ?_)
 clear kh3
 refine f_seq fun K4 kh4 => ?_
 refine f_region ?_
 refine f_stepP rfl rfl rfl (o_loadA (vs := [_, _]) Try.isAgg24 Try.sizeOf24 rfl rfl ⟨(rdA rfl), (rdA rfl), trivial⟩) ?_
 refine f_step rfl rfl rfl (o_sliceN (len := 5) el25 (by omega) rfl rfl fun b20 => ?_)
 refine f_step rfl rfl rfl (o_call Try.call9 rfl (fun w_ hp_ => Join_spec 5 (some ⟨b10, 0, none⟩) (some ⟨b20, 0, none⟩) wg9 4 [0, 1, 2, 3, 4] 5 2 w_ (roOwn (b := b10) hp_ (cs := wg9.flatMap arcCs) (fun j v hj => hj)) (by decide) (by decide) wg9Ok (roOwn (b := b20) hp_ (cs := ints [0, 1, 2, 3, 4]) (fun j v hj => hj)) (by decide)) ?_)
 rintro _ _ ⟨R, A2, c2, m2, rfl, rfl, ho2, _, h21⟩
 obtain ⟨_, hRn, hRj⟩ := h21 w9JoinE
 obtain rfl : R = [0, 0, 1, 1, 2] := w9Join hRj hRn
 rw [w9JoinE]
 dsimp only [List.cons_append, List.nil_append]
 refine f_stepP rfl rfl rfl (o_move rfl) ?_
 refine f_stepP rfl rfl rfl (o_extract rfl rfl) ?_
 refine f_stepP rfl rfl rfl (o_extract rfl rfl) ?_
 refine f_stepP rfl rfl rfl (o_assign rfl) ?_
 refine f_stepP rfl rfl rfl (o_assign rfl) ?_
 refine f_done ?_
 refine f_tn (kh4 _ _ ?_)
 clear kh4
 refine f_seq fun K5 kh5 => ?_
 refine f_region ?_
 refine f_stepP rfl rfl rfl (o_move rfl) ?_
 refine f_stepP rfl rfl rfl (o_eql rfl rfl) ?_
 refine f_stepP rfl rfl rfl (o_move rfl) ?_
 refine f_trueL 26 rfl (rfl) ?_
 refine f_stepPY rfl rfl rfl rfl rfl (o_move rfl) ?_
 refine f_stepPY rfl rfl rfl rfl rfl (o_eql rfl rfl) ?_
 refine f_stepP rfl rfl rfl (o_pickT rfl rfl) ?_
 refine f_stepP rfl rfl rfl (o_move rfl) ?_
 refine f_trueL 30 rfl (rfl) ?_
 refine f_stepPY rfl rfl rfl rfl rfl (o_move rfl) ?_
 refine f_stepY rfl rfl rfl rfl rfl (o_sliceN (len := 5) el25 (by omega) rfl rfl fun b32 => ?_)
 refine f_stepY rfl rfl rfl rfl rfl (o_call Try.call14 rfl (fun w_ hp_ => SameInts_spec A1 (some ⟨b32, 0, none⟩) [0, 0, 1, 1, 2] [0, 0, 1, 1, 2] c1 5 w_ (seen_ro (ho1.seen hp_)) (roOwn (b := b32) hp_ (cs := ints [0, 0, 1, 1, 2]) (fun j v hj => hj)) (by decide)) ?_)
 rintro _ _ ⟨rfl, rfl⟩
 rw [decide_eq_true rfl]
 dsimp only [List.cons_append, List.nil_append]
 refine f_stepP rfl rfl rfl (o_pickT rfl rfl) ?_
 refine f_stepP rfl rfl rfl (o_move rfl) ?_
 refine f_stepPY rfl rfl rfl rfl rfl (o_move rfl) ?_
 refine f_stepY rfl rfl rfl rfl rfl (o_sliceN (len := 5) el25 (by omega) rfl rfl fun b37 => ?_)
 refine f_stepY rfl rfl rfl rfl rfl (o_call Try.call14 rfl (fun w_ hp_ => SameInts_spec A2 (some ⟨b37, 0, none⟩) [0, 0, 1, 1, 2] [0, 0, 1, 1, 2] c2 5 w_ (seen_ro (ho2.seen hp_)) (roOwn (b := b37) hp_ (cs := ints [0, 0, 1, 1, 2]) (fun j v hj => hj)) (by decide)) ?_)
 rintro _ _ ⟨rfl, rfl⟩
 rw [decide_eq_true rfl]
 dsimp only [List.cons_append, List.nil_append]
 refine f_stepP rfl rfl rfl (o_pickT rfl rfl) ?_
 refine f_stepP rfl rfl rfl (o_assign rfl) ?_
 refine f_done ?_
 refine f_tn (kh5 _ _ ?_)
 clear kh5
 refine f_ret ?_
 exact f_fin1 [] Try.results6 rfl Sub.nil ⟨rfl, rfl⟩

set_option maxRecDepth 100000 in
set_option maxHeartbeats 4000000 in
theorem Sizes9_spec (N : Int) (A : Option Addr) (l : List Arc) (cap : Nat) (B : Option Addr) (L : List Int) (cb : Nat) (w : World) (hr : Ro (Fr w []) w A (l.flatMap arcCs)) (hl : l.length ≤ 9223372036854775807) (hN : I64 N) (hok : ∀ x ∈ l, ArcOk x) (hL : Ro (Fr w []) w B (ints L)) (hm : L.length ≤ 9223372036854775807) (hz : spE N l L 1 = 0) :
    Meets Try.prog 11 [.agg #[.int .i64 N, .slice A l.length cap], .slice B L.length cb] w [] (fun u own' => ∃ b, u = .tuple #[.slice (some ⟨b, 0, none⟩) (maxL L + 1).toNat (maxL L + 1).toNat, .int .i64 0] ∧ own' = [[(b, blk (ints (sizesL L)) 3)]]) := by
 obtain ⟨n, rfl, hn1, hn2, hg, hR, _⟩ := spE_zero hz
 obtain rfl : L.length = n := (right_parts hR).2
 have hrg := right_range hR hn1
 refine f_enter Try.func11 rfl Try.ntmps11 rfl Owns.nil ?_
 refine f_seq fun K1 kh1 => ?_
 refine f_region ?_
 refine f_step rfl rfl rfl (o_box rfl rfl fun b2 => ?_)
 refine f_stepP rfl rfl rfl (o_assign rfl) ?_
 refine f_stepP rfl rfl rfl (o_assign rfl) ?_
 refine f_done ?_
 refine f_tn (kh1 _ _ ?_)
 clear kh1
 refine f_seq fun K2 kh2 => ?_
 refine f_seq fun K3 kh3 => ?_
 refine f_region ?_
 refine f_stepP rfl rfl rfl (o_loadA (vs := [_, _]) Try.isAgg24 Try.sizeOf24 rfl rfl ⟨(rdA rfl), (rdA rfl), trivial⟩) ?_
 refine f_stepP rfl rfl rfl (o_move rfl) ?_
 refine f_step rfl rfl rfl (o_call Try.call17 rfl (fun w_ hp_ => splook_spec (L.length : Int) A B l cap L cb 1 w_ (hr.up0 hp_) hl hN hok (hL.up0 hp_) hm) ?_)
 rintro _ _ ⟨rfl, rfl⟩
 rw [hz]
 dsimp only [List.cons_append, List.nil_append]
 refine f_stepP rfl rfl rfl (o_assign rfl) ?_
 refine f_done ?_
 refine f_tn (kh3 _ _ ?_)
 clear kh3
 refine f_seq fun K4 kh4 => ?_
 refine f_region ?_
 refine f_stepP rfl rfl rfl (o_move rfl) ?_
 refine f_stepP rfl rfl rfl (o_neq rfl rfl) ?_
 refine f_done ?_
 refine f_tn (kh4 _ _ ?_)
 clear kh4
 refine f_condN rfl (by simp) ?_
 refine f_skip ?_
 refine f_tn (kh2 _ _ ?_)
 clear kh2
 refine f_seq fun K5 kh5 => ?_
 refine f_region ?_
 refine f_stepP rfl rfl rfl (o_move rfl) ?_
 refine f_step rfl rfl rfl (o_call Try.call19 rfl (fun w_ hp_ => sizes_spec B L cb w_ (hL.up0 hp_) (by omega) (by omega) (fun x hx => by have := hrg x hx; omega)) ?_)
 rintro _ _ ⟨bs, rfl, rfl⟩
 dsimp only [List.cons_append, List.nil_append]
 refine f_stepP rfl rfl rfl (o_assign rfl) ?_
 refine f_stepP rfl rfl rfl (o_assign rfl) ?_
 refine f_done ?_
 refine f_tn (kh5 _ _ ?_)
 clear kh5
 refine f_ret ?_
 exact f_fin2 [[(bs, blk (ints (sizesL L)) 3)]] Try.results11 rfl rfl (by repeat (first | exact Sub.nil | refine Sub.pick ?_ | refine Sub.castO rfl ?_ | refine Sub.skip ?_)) ⟨bs, rfl, rfl⟩

set_option maxRecDepth 100000 in
set_option maxHeartbeats 4000000 in
theorem bounded_spec (n : Nat) (A : Option Addr) (l : List Arc) (cap : Nat) (B : Option Addr) (L : List Int) (cb : Nat) (bd : Int) (w : World) (hr : Ro (Fr w []) w A (l.flatMap arcCs)) (hl : l.length ≤ 9223372036854775807) (hN : I64 (n : Int)) (hok : ∀ x ∈ l, ArcOk x) (hL : Ro (Fr w []) w B (ints L)) (hm : L.length ≤ 9223372036854775807) (hg : (gcheck (n : Int) l).2 = 0) (hR : rightB (n : Int) L = true) (hs : ∀ y, (cntI L y : Int) ≤ bd) :
    Meets Try.prog 10 [.agg #[.int .i64 (n : Int), .slice A l.length cap], .slice B L.length cb, .int .i64 bd] w [] (fun u m => u = .bool true ∧ m = []) := by
 have hlc := lc_zero hg hR
 have hz := spE_one hg hR (bd := 1) (by omega)
 obtain ⟨hg1, hg2, _, _⟩ := gcheck_zero hg
 have hLn : L.length = n := (right_parts hR).2
 have hrg := right_range hR (by omega)
 obtain ⟨M, hM⟩ : ∃ M : Nat, (maxL L + 1).toNat = M := ⟨_, rfl⟩
 refine f_enter Try.func10 rfl Try.ntmps10 rfl Owns.nil ?_
 refine f_seq fun K1 kh1 => ?_
 refine f_region ?_
 refine f_step rfl rfl rfl (o_box rfl rfl fun b3 => ?_)
 refine f_stepP rfl rfl rfl (o_assign rfl) ?_
 refine f_done ?_
 refine f_tn (kh1 _ _ ?_)
 clear kh1
 refine f_seq fun K2 kh2 => ?_
 refine f_seq fun K3 kh3 => ?_
 refine f_region ?_
 refine f_stepP rfl rfl rfl (o_loadA (vs := [_, _]) Try.isAgg24 Try.sizeOf24 rfl rfl ⟨(rdA rfl), (rdA rfl), trivial⟩) ?_
 refine f_stepP rfl rfl rfl (o_move rfl) ?_
 refine f_step rfl rfl rfl (o_call Try.call13 rfl (fun w_ hp_ => Count_spec (n : Int) A B l cap L cb w_ (hr.up0 hp_) hl hN hok (hL.up0 hp_) hm) ?_)
 rintro _ _ ⟨rfl, rfl⟩
 rw [hlc]
 dsimp only [List.cons_append, List.nil_append]
 refine f_stepP rfl rfl rfl (o_move rfl) ?_
 refine f_stepP rfl rfl rfl (o_extract rfl rfl) ?_
 refine f_stepP rfl rfl rfl (o_extract rfl rfl) ?_
 refine f_stepP rfl rfl rfl (o_assign rfl) ?_
 refine f_stepP rfl rfl rfl (o_assign rfl) ?_
 refine f_done ?_
 refine f_tn (kh3 _ _ ?_)
 clear kh3
 refine f_seq fun K4 kh4 => ?_
 refine f_region ?_
 refine f_stepP rfl rfl rfl (o_move rfl) ?_
 refine f_stepP rfl rfl rfl (o_neq rfl rfl) ?_
 refine f_done ?_
 refine f_tn (kh4 _ _ ?_)
 clear kh4
 refine f_condN rfl (by simp) ?_
 refine f_skip ?_
 refine f_tn (kh2 _ _ ?_)
 clear kh2
 refine f_seq fun K5 kh5 => ?_
 refine f_region ?_
 refine f_stepP rfl rfl rfl (o_loadA (vs := [_, _]) Try.isAgg24 Try.sizeOf24 rfl rfl ⟨(rdA rfl), (rdA rfl), trivial⟩) ?_
 refine f_stepP rfl rfl rfl (o_move rfl) ?_
 refine f_step rfl rfl rfl (o_call Try.call11 rfl (fun w_ hp_ => Sizes9_spec (n : Int) A l cap B L cb w_ (hr.up0 hp_) hl hN hok (hL.up0 hp_) hm hz) ?_)
 rintro _ _ ⟨bs, rfl, rfl⟩
 rw [sizesL, hM]
 rw [hM] at hrg
 have hMn := (hrg L[0] (List.getElem_mem (by omega))).2.2
 dsimp only [List.cons_append, List.nil_append]
 refine f_stepP rfl rfl rfl (o_move rfl) ?_
 refine f_stepP rfl rfl rfl (o_extract rfl rfl) ?_
 refine f_stepP rfl rfl rfl (o_extract rfl rfl) ?_
 refine f_stepP rfl rfl rfl (o_assign rfl) ?_
 refine f_stepP rfl rfl rfl (o_assign rfl) ?_
 refine f_done ?_
 refine f_tn (kh5 _ _ ?_)
 clear kh5
 refine f_seq fun K6 kh6 => ?_
 skip
 refine f_region ?_
 refine f_stepP rfl rfl rfl (o_assign rfl) ?_
 refine f_done ?_
 refine f_tn (kh6 _ _ ?_)
 clear kh6
 refine f_seq fun K7 kh7 => ?_
 refine f_seq fun K8 kh8 => ?_
 refine f_reC 11 rfl (v := .int .i64 (blw L 0 : Int)) (by rw [blw_zero]; rfl) ?_
 refine f_region ?_
 refine f_stepP rfl rfl rfl (o_move rfl) ?_
 refine f_stepP rfl rfl rfl (o_len sl25 rfl) ?_
 refine f_stepP rfl rfl rfl (o_move rfl) ?_
 refine f_done ?_
 refine f_tn (kh8 _ _ ?_)
 clear kh8
 refine f_block ?_
 refine f_loop (α := Nat) [2, 3, 10, 28, 29] (fun k => [(30, .int .i64 (k : Int)), (11, .int .i64 (blw L k : Int))]) (fun k => [[(bs, blk (ints (szs M L)) 3)], [(b3, blk [.int .i64 (n : Int), .slice A l.length cap] 24)]]) (fun k => k ≤ M) (fun k => M - k) (0) ?_ ?_ ?_ ?_
 · exact (by repeat (first | exact trivial | refine ⟨rfl, ?_⟩))
 · repeat (first | exact Sub.nil | refine Sub.pick ?_ | refine Sub.castO rfl ?_ | refine Sub.skip ?_)
 · exact Nat.zero_le _
 ·
  rintro k hkM
  refine f_seq fun K9 kh9 => ?_
  refine f_region ?_
  refine f_stepP rfl rfl rfl (o_lss rfl rfl) ?_
  refine f_done ?_
  refine f_tn (kh9 _ _ ?_)
  clear kh9
  refine f_seq fun K10 kh10 => ?_
  refine f_cond rfl (fun c31 => ?_) (fun c31 => ?_)
  ·
   have hk : k < M := by omega
   have hc1 := right_cnt hR (by omega) (j := k) (by omega)
   have hc2 := hs (k : Int)
   rw [← cnt_is] at hc2
   have hbn := blw_next k L
   have hbl := blw_le L k
   have hcl := cnt_le L k
   refine f_skip ?_
   refine f_tn (kh10 _ _ ?_)
   clear kh10
   refine f_seq fun K11 kh11 => ?_
   refine f_block ?_
   refine f_seq fun K12 kh12 => ?_
   refine f_region ?_
   refine f_stepP rfl rfl rfl (o_idx sl25 rfl rfl (k) ⟨by omega, by omega, by first | omega | (simp; done) | (simp; omega)⟩) ?_
   refine f_stepP rfl rfl rfl (o_load Try.isAgg3 rfl (rdA (v := .int .i64 (cnt L k : Int)) (by rw [ints_get (by rw [szs_len]; exact hk), szs_get hk]))) ?_
   refine f_stepP rfl rfl rfl (o_assign rfl) ?_
   refine f_done ?_
   refine f_tn (kh12 _ _ ?_)
   clear kh12
   refine f_seq fun K13 kh13 => ?_
   refine f_seq fun K14 kh14 => ?_
   refine f_region ?_
   refine f_stepP rfl rfl rfl (o_move rfl) ?_
   refine f_stepP rfl rfl rfl (o_lss rfl rfl) ?_
   refine f_stepP rfl rfl rfl (o_move rfl) ?_
   refine f_falseL 36 rfl (by omega) ?_
   refine f_stepPY rfl rfl rfl rfl rfl (o_move rfl) ?_
   refine f_stepPY rfl rfl rfl rfl rfl (o_move rfl) ?_
   refine f_stepPY rfl rfl rfl rfl rfl (o_gtr rfl rfl) ?_
   refine f_stepP rfl rfl rfl (o_pickF rfl rfl) ?_
   refine f_done ?_
   refine f_tn (kh14 _ _ ?_)
   clear kh14
   refine f_condN rfl (by omega) ?_
   refine f_skip ?_
   refine f_tn (kh13 _ _ ?_)
   clear kh13
   refine f_region ?_
   refine f_stepP rfl rfl rfl (o_move rfl) ?_
   refine f_stepP rfl rfl rfl (o_move rfl) ?_
   refine f_stepP rfl rfl rfl (o_add rfl rfl _ (wrap_i64 (by omega))) ?_
   refine f_stepP rfl rfl rfl (o_assign rfl) ?_
   refine f_done ?_
   refine f_bn ?_
   refine f_tn (kh11 _ _ ?_)
   clear kh11
   refine f_region ?_
   refine f_stepP rfl rfl rfl (o_add rfl rfl _ (wrap_i64 (by omega))) ?_
   refine f_stepP rfl rfl rfl (o_move rfl) ?_
   refine f_done ?_
   refine f_reQ 11 rfl (v := .int .i64 (blw L (k + 1) : Int)) (by congr 1; omega) ?_
   refine f_tn (f_again (k + 1) (by first | omega | (dsimp only; omega) | (simp; omega)) (by omega) ?_ ?_ ?_)
   · exact (by repeat (first | exact trivial | refine ⟨rfl, ?_⟩))
   · exact (by repeat (first | exact trivial | refine ⟨rfl, ?_⟩))
   · repeat (first | exact Sub.nil | refine Sub.pick ?_ | refine Sub.castO rfl ?_ | refine Sub.skip ?_)
  ·
   obtain rfl : k = M := by omega
   have hba := blw_all (L := L) (k := k) (fun x hx => by have := hrg x hx; omega)
   refine f_exit ?_
   refine f_te ?_
   clear kh10
   refine f_te ?_
   refine f_be ?_
   refine f_tn (kh7 _ _ ?_)
   clear kh7
   refine f_seq fun K15 kh15 => ?_
   refine f_region ?_
   refine f_stepP rfl rfl rfl (o_move rfl) ?_
   refine f_stepP rfl rfl rfl (o_eql rfl rfl) ?_
   refine f_stepP rfl rfl rfl (o_move rfl) ?_
   refine f_trueL 47 rfl (rfl) ?_
   refine f_stepPY rfl rfl rfl rfl rfl (o_move rfl) ?_
   refine f_stepPY rfl rfl rfl rfl rfl (o_field fa24_0 rfl) ?_
   refine f_stepPY rfl rfl rfl rfl rfl (o_load Try.isAgg3 rfl (rdA rfl)) ?_
   refine f_stepPY rfl rfl rfl rfl rfl (o_eql rfl rfl) ?_
   refine f_stepP rfl rfl rfl (o_pickT rfl rfl) ?_
   refine f_stepP rfl rfl rfl (o_assign rfl) ?_
   refine f_done ?_
   refine f_tn (kh15 _ _ ?_)
   clear kh15
   refine f_ret ?_
   exact f_fin1 [] Try.results10 rfl Sub.nil ⟨by rw [decide_eq_true (by omega)], rfl⟩

end Go.Proofs.Ytkhjckghpakliaa
