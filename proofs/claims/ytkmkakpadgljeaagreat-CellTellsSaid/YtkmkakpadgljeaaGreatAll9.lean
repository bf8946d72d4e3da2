import Derived.Test.YtkmkakpadgljeaaGreatAll8
import Derived.Test.YtkmkakpadgljeaaGreatAll5
import Derived.Test.YtkmkakpadgljeaaGreatFlyT

/- The document's In, Has, Edge, Boundary, Place, Index, Inside, Inner, Between of cells. -/
namespace Go.Proofs.YtkmkakpadgljeaaGreat
open Go Go.RowKit Fly
set_option linter.unusedVariables false
set_option linter.unusedSimpArgs false


theorem own_fullD {E len cap : Nat} {A : Option Addr} {cs : List Value} {m : Seg} (h : Own E 1 (.slice A len cap) len cs m) : ∃ cs', Own E 1 (.slice A cap cap) cap cs' m := by
  obtain ⟨hl, h | ⟨b, c, sp, e, hm, h1, h2, h3⟩⟩ := h
  · obtain ⟨e, rfl, rfl⟩ := h
    cases e
    exact ⟨[], by simp, .inl ⟨rfl, rfl, rfl⟩⟩
  · cases e
    exact ⟨cs ++ sp, by simp [hl, h3]; omega, .inr ⟨b, cap, [], rfl, by simpa using hm, Nat.le_refl _, h2, by simp⟩⟩
theorem sl_sameD (A : Option Addr) (cap : Nat) : (if cap = 0 then A else A.map (·.add (0 * 1))) = A := by
  split
  · rfl
  · cases A with
    | none => rfl
    | some x => obtain ⟨p, q, r⟩ := x; cases r <;> simp [Addr.add]
theorem boolsT_at {l : List Bool} {i : Nat} (h : i < l.length) : (boolsT l)[i]? = some (.bool (l.getD i false)) := by simp [boolsT, List.getD_eq_getElem?_getD, h]
/-- Is a vertex an end of an arc out of a cell, or into it? -/
def ed1 (L : List Int) (c : Int) (a : Arc) (v : Nat) : Bool := (decide (L.getD a.src.toNat 0 = c) && !decide (L.getD a.dst.toNat 0 = c)) && decide (a.src = (v : Int))
def ed2 (L : List Int) (c : Int) (a : Arc) (v : Nat) : Bool := (decide (L.getD a.dst.toNat 0 = c) && !decide (L.getD a.src.toNat 0 = c)) && decide (a.dst = (v : Int))
def edB (L : List Int) (c : Int) (l : List Arc) (v : Nat) : Bool := l.any fun a => ed1 L c a v || ed2 L c a v
theorem ed1_eq {L : List Int} {c : Int} {a : Arc} {s d v : Nat} (hs : a.src = (s : Int)) (hd : a.dst = (d : Int)) : ed1 L c a v = ((decide (L.getD s 0 = c) && !decide (L.getD d 0 = c)) && decide (s = v)) := by
  unfold ed1
  rw [hs, hd, Int.toNat_natCast, Int.toNat_natCast]
  congr 1
  rw [decide_eq_decide]; omega
theorem ed2_eq {L : List Int} {c : Int} {a : Arc} {s d v : Nat} (hs : a.src = (s : Int)) (hd : a.dst = (d : Int)) : ed2 L c a v = ((decide (L.getD d 0 = c) && !decide (L.getD s 0 = c)) && decide (d = v)) := by
  unfold ed2
  rw [hs, hd, Int.toNat_natCast, Int.toNat_natCast]
  congr 1
  rw [decide_eq_decide]; omega
theorem edB_next {L : List Int} {c : Int} {l : List Arc} {i v : Nat} (hi : i < l.length) : edB L c (l.take (i + 1)) v = (edB L c (l.take i) v || (ed1 L c l[i] v || ed2 L c l[i] v)) := by
  unfold edB; rw [any_take hi]
theorem trues_edB {L : List Int} {c : Int} {l : List Arc} {n : Nat} {es : List Bool} (hg : ∀ k (hk : k < l.length), 0 ≤ l[k].src ∧ l[k].src < (n : Int) ∧ 0 ≤ l[k].dst ∧ l[k].dst < (n : Int)) (hel : es.length = n) (hes : ∀ v, v < n → es.getD v false = edB L c l v) : trues es = bdL L c l := by
  refine rising_eq (R := fun a b : Int => a < b) (fun a b c h1 h2 => by omega) (fun a b h e => by omega) (trues_rising _) (bdL_rising _ _ _) fun x => ?_
  rw [trues_mem, bdL_mem]
  constructor
  · rintro ⟨v, hv, rfl, h⟩
    rw [hes v (by omega)] at h
    unfold edB at h
    obtain ⟨a, ha, h⟩ := List.any_eq_true.1 h
    refine ⟨a, ha, bdOf_mem.2 ?_⟩
    unfold ed1 ed2 at h
    simp only [Bool.or_eq_true, Bool.and_eq_true, decide_eq_true_eq, Bool.not_eq_true', decide_eq_false_iff_not] at h
    rcases h with ⟨⟨h1, h2⟩, h3⟩ | ⟨⟨h1, h2⟩, h3⟩
    · exact ⟨fun e => h2 (by rw [← e]; exact h1), .inl ⟨h1, h3.symm⟩⟩
    · exact ⟨fun e => h2 (by rw [e]; exact h1), .inr ⟨h1, h3.symm⟩⟩
  · rintro ⟨a, ha, h⟩
    obtain ⟨h0, h⟩ := bdOf_mem.1 h
    obtain ⟨k, hk, rfl⟩ := List.mem_iff_getElem.1 ha
    have hgk := hg k hk
    have hx : 0 ≤ x ∧ x < (n : Int) := by
      rcases h with ⟨_, h⟩ | ⟨_, h⟩ <;> omega
    obtain ⟨v, rfl⟩ : ∃ v : Nat, x = (v : Int) := ⟨x.toNat, by omega⟩
    refine ⟨v, by omega, rfl, ?_⟩
    rw [hes v (by omega)]
    unfold edB
    refine List.any_eq_true.2 ⟨l[k], ha, ?_⟩
    unfold ed1 ed2
    simp only [Bool.or_eq_true, Bool.and_eq_true, decide_eq_true_eq, Bool.not_eq_true', decide_eq_false_iff_not]
    rcases h with ⟨h1, h2⟩ | ⟨h1, h2⟩
    · exact .inl ⟨⟨h1, fun e => h0 (by rw [h1, e])⟩, h2.symm⟩
    · exact .inr ⟨⟨h1, fun e => h0 (by rw [h1, e])⟩, h2.symm⟩

set_option maxRecDepth 100000 in
set_option maxHeartbeats 4000000 in
theorem SpoilIntsD_spec (A : Option Addr) (len cap c : Nat) (cs : List Value) (m : Seg) (x : Int) (w : World) (ho : Own 3 1 (.slice A len c) len cs m) (hlc : len ≤ cap) (hcc : cap ≤ c) (hw : Owns w [m]) :
    Meets Tryz.prog 17 [.slice A len cap, .int .i64 x] w [m] (fun u own' => u = .tuple #[] ∧ own' = []) := by
 obtain ⟨_, _, e_, _, hc⟩ := ho.val
 cases e_
 obtain ⟨cs', ho'⟩ := own_fullD ho
 clear ho
 have hA := sl_sameD A cap
 refine f_enter Tryz.func17 rfl Tryz.ntmps17 rfl hw ?_
 refine f_seq fun K1 kh1 => ?_
 refine f_region ?_
 refine f_stepP rfl rfl rfl (o_move rfl) ?_
 refine f_stepP rfl rfl rfl (o_move rfl) ?_
 refine f_stepP rfl rfl rfl (o_cap sl25 rfl) ?_
 refine f_stepP rfl rfl rfl (o_slice sl25 rfl rfl rfl rfl (fun h => by cases h) 0 cap _ (.inl ⟨rfl, rfl⟩) (.inr ⟨_, _, rfl, by omega⟩) (.inl ⟨rfl, rfl⟩) ⟨by omega, by omega, by omega⟩ (.slice A cap cap) (by simp only [Nat.sub_zero]; rw [hA])) ?_
 refine f_stepP rfl rfl rfl (o_assign rfl) ?_
 refine f_done ?_
 refine f_tn (kh1 _ _ ?_)
 clear kh1
 refine f_seq fun K2 kh2 => ?_
 refine f_region ?_
 refine f_stepP rfl rfl rfl (o_assign rfl) ?_
 refine f_done ?_
 refine f_tn (kh2 _ _ ?_)
 clear kh2
 refine f_block ?_
 refine f_loop (α := Nat × List Value × Seg) [0, 1] (fun ⟨k, ds, x_⟩ => [(4, .int .i64 (k : Int))]) (fun ⟨k, ds, x_⟩ => [x_]) (fun ⟨k, ds, x_⟩ => k ≤ cap ∧ Own 3 1 (.slice A c c) c ds x_) (fun ⟨k, ds, x_⟩ => cap - k) (0, cs', m) ?_ ?_ ?_ ?_
 · exact (by repeat (first | exact trivial | refine ⟨rfl, ?_⟩))
 · repeat (first | exact Sub.nil | refine Sub.pick ?_ | refine Sub.castO rfl ?_ | refine Sub.skip ?_)
 · exact ⟨Nat.zero_le _, ho'⟩
 ·
  rintro ⟨k, ds, x_⟩ ⟨hk, hx⟩
  refine f_seq fun K3 kh3 => ?_
  refine f_seq fun K4 kh4 => ?_
  refine f_region ?_
  refine f_stepP rfl rfl rfl (o_move rfl) ?_
  refine f_stepP rfl rfl rfl (o_move rfl) ?_
  refine f_stepP rfl rfl rfl (o_len sl25 rfl) ?_
  refine f_stepP rfl rfl rfl (o_lss rfl rfl) ?_
  refine f_done ?_
  refine f_tn (kh4 _ _ ?_)
  clear kh4
  refine f_cond rfl (fun c12 => ?_) (fun c12 => ?_)
  ·
   refine f_skip ?_
   refine f_tn (kh3 _ _ ?_)
   clear kh3
   refine f_seq fun K5 kh5 => ?_
   refine f_block ?_
   have hk' : k < cap := by omega
   obtain ⟨b, rfl, rfl⟩ : ∃ b, A = some ⟨b, 0, none⟩ ∧ x_ = [(b, blk ds 3)] := by
     obtain ⟨_, h | ⟨b, c', sp, e, hm, h1, h2, h3⟩⟩ := hx
     · omega
     · cases e
       have : sp = [] := List.length_eq_zero_iff.1 (by simpa using h3)
       subst this
       exact ⟨b, rfl, by simpa using hm⟩
   have hdl : ds.length = c := by simpa using hx.1
   refine f_region ?_
   refine f_stepP rfl rfl rfl (o_move rfl) ?_
   refine f_stepP rfl rfl rfl (o_move rfl) ?_
   refine f_stepP rfl rfl rfl (o_move rfl) ?_
   refine f_stepP rfl rfl rfl (o_idx sl25 rfl rfl (k) ⟨by omega, by omega, by first | omega | (simp; done) | (simp; omega)⟩) ?_
   refine f_step0 rfl rfl (o_store Tryz.sizeOf3 rfl rfl rfl rfl (by omega) _ rfl ?_)
   refine f_done ?_
   refine f_bn ?_
   refine f_tn (kh5 _ _ ?_)
   clear kh5
   refine f_region ?_
   refine f_stepP rfl rfl rfl (o_move rfl) ?_
   refine f_stepP rfl rfl rfl (o_add rfl rfl _ (wrap_i64 (by omega))) ?_
   refine f_stepP rfl rfl rfl (o_assign rfl) ?_
   refine f_done ?_
   refine f_tn (f_again (k + 1, ds.set k (.int .i64 x), [(b, blk (ds.set k (.int .i64 x)) 3)]) (by first | omega | (dsimp only; omega) | (simp; omega)) ⟨by omega, by simpa using hx.1, .inr ⟨b, c, [], rfl, by simp, Nat.le_refl _, hc, by simp⟩⟩ ?_ ?_ ?_)
   · exact (by repeat (first | exact trivial | refine ⟨rfl, ?_⟩))
   · exact (by repeat (first | exact trivial | refine ⟨rfl, ?_⟩))
   · repeat (first | exact Sub.nil | refine Sub.pick ?_ | refine Sub.castO rfl ?_ | refine Sub.skip ?_)
  ·
   refine f_exit ?_
   refine f_te ?_
   clear kh3
   refine f_te ?_
   refine f_be ?_
   exact f_fin0n [] Tryz.results17 Sub.empty ⟨rfl, rfl⟩

set_option maxRecDepth 100000 in
set_option maxHeartbeats 4000000 in
theorem RIn_spec (Ab : Option Addr) (bs : List Int) (cb : Nat) (Ac : Option Addr) (R : List Row) (cc : Nat) (k : Nat) (c : Int) (w : World) (hn : NestRo (Fr w []) w Ab bs Ac R) (hkR : k < R.length) (hL : (R[k]'hkR).2.1.length ≤ 1024) :
    Meets Tryz.prog 42 [.agg #[.slice Ab bs.length cb, .slice Ac R.length cc], .int .i64 ((k : Int) + 1), .int .i64 c] w [] (fun u own' => ∃ b es, u = .slice (some ⟨b, 0, none⟩) (R[k]'hkR).2.1.length (R[k]'hkR).2.1.length ∧ own' = [[(b, blk (boolsT es) 4)]] ∧ es.length = (R[k]'hkR).2.1.length ∧ ∀ v, v < (R[k]'hkR).2.1.length → es.getD v false = decide ((R[k]'hkR).2.1.getD v 0 = c)) := by
 obtain ⟨b0, o0, rfl, hS0, hc0⟩ := hn.c (map_ne hkR)
 have hrow := hn.rows _ (List.getElem_mem hkR)
 have hcl := hn.cl
 refine f_enter Tryz.func42 rfl Tryz.ntmps42 rfl Owns.nil ?_
 refine f_seq fun K1 kh1 => ?_
 refine f_region ?_
 refine f_step rfl rfl rfl (o_box rfl rfl fun b3 => ?_)
 refine f_stepP rfl rfl rfl (o_assign rfl) ?_
 refine f_done ?_
 refine f_tn (kh1 _ _ ?_)
 clear kh1
 refine f_seq fun K2 kh2 => ?_
 refine f_region ?_
 refine f_stepP rfl rfl rfl (o_field fa28_1 rfl) ?_
 refine f_stepP rfl rfl rfl (o_load Tryz.isAgg26 rfl (rdA rfl)) ?_
 refine f_stepP rfl rfl rfl (o_move rfl) ?_
 refine f_stepP rfl rfl rfl (o_sub rfl rfl _ (Eq.trans (wrap_i64 (by omega)) (show _ = (k : Int) by omega))) ?_
 refine f_stepP rfl rfl rfl (o_idx sl26 rfl rfl (o0 + k) ⟨by omega, by omega, by first | omega | (simp; done) | (simp; omega)⟩) ?_
 refine f_stepP rfl rfl rfl (o_load Tryz.isAgg25 rfl (roOne (enc := rowV) hS0 hc0 hkR)) ?_
 refine f_stepP rfl rfl rfl (o_assign rfl) ?_
 refine f_done ?_
 refine f_tn (kh2 _ _ ?_)
 clear kh2
 refine f_seq fun K3 kh3 => ?_
 refine f_region ?_
 refine f_stepP rfl rfl rfl (o_move rfl) ?_
 refine f_stepP rfl rfl rfl (o_len sl25 rfl) ?_
 refine f_step rfl rfl rfl (o_make el64 rfl rfl (R[k]'hkR).2.1.length rfl (by omega) (by omega) (boolsT (List.replicate (R[k]'hkR).2.1.length false)) (reps_T _ false) fun b18 => ?_)
 refine f_stepP rfl rfl rfl (o_assign rfl) ?_
 refine f_done ?_
 refine f_tn (kh3 _ _ ?_)
 clear kh3
 refine f_seq fun K4 kh4 => ?_
 refine f_seq fun K5 kh5 => ?_
 refine f_region ?_
 refine f_stepP rfl rfl rfl (o_assign rfl) ?_
 refine f_done ?_
 refine f_tn (kh5 _ _ ?_)
 clear kh5
 refine f_block ?_
 refine f_loop (α := Nat × List Bool) [2, 7, 8] (fun ⟨v, es⟩ => [(9, .int .i64 (v : Int))]) (fun ⟨v, es⟩ => [[(b18, blk (boolsT es) 4)]]) (fun ⟨v, es⟩ => v ≤ (R[k]'hkR).2.1.length ∧ es.length = (R[k]'hkR).2.1.length ∧ ∀ u, u < v → es.getD u false = decide ((R[k]'hkR).2.1.getD u 0 = c)) (fun ⟨v, es⟩ => (R[k]'hkR).2.1.length - v) (0, List.replicate (R[k]'hkR).2.1.length false) ?_ ?_ ?_ ?_
 · exact (by repeat (first | exact trivial | refine ⟨rfl, ?_⟩))
 · repeat (first | exact Sub.nil | refine Sub.pick ?_ | refine Sub.castO rfl ?_ | refine Sub.skip ?_)
 · exact ⟨Nat.zero_le _, by simp, fun u h => by omega⟩
 ·
  rintro ⟨v, es⟩ ⟨hvl0, hel, hes⟩
  refine f_seq fun K6 kh6 => ?_
  refine f_seq fun K7 kh7 => ?_
  refine f_region ?_
  refine f_stepP rfl rfl rfl (o_move rfl) ?_
  refine f_stepP rfl rfl rfl (o_move rfl) ?_
  refine f_stepP rfl rfl rfl (o_len sl25 rfl) ?_
  refine f_stepP rfl rfl rfl (o_lss rfl rfl) ?_
  refine f_done ?_
  refine f_tn (kh7 _ _ ?_)
  clear kh7
  refine f_cond rfl (fun c22 => ?_) (fun c22 => ?_)
  ·
   have hvl : v < (R[k]'hkR).2.1.length := by omega
   obtain ⟨br, or, hAr, hSr, hcr⟩ := hrow.1 (fun e => by have := ints_length (R[k]'hkR).2.1; rw [e] at this; simp at this; omega)
   refine f_reC 7 rfl (v := .slice (some ⟨br, or, none⟩) (R[k]'hkR).2.1.length (R[k]'hkR).2.2) (by rw [← hAr]) ?_
   refine f_skip ?_
   refine f_tn (kh6 _ _ ?_)
   clear kh6
   refine f_seq fun K8 kh8 => ?_
   refine f_block ?_
   refine f_region ?_
   refine f_stepP rfl rfl rfl (o_move rfl) ?_
   refine f_stepP rfl rfl rfl (o_move rfl) ?_
   refine f_stepP rfl rfl rfl (o_move rfl) ?_
   refine f_stepP rfl rfl rfl (o_move rfl) ?_
   refine f_stepP rfl rfl rfl (o_idx sl25 rfl rfl (or + v) ⟨by omega, by omega, by first | omega | (simp; done) | (simp; omega)⟩) ?_
   refine f_stepP rfl rfl rfl (o_load Tryz.isAgg3 rfl (roOne (enc := (.int .i64 ·)) hSr hcr hvl)) ?_
   refine f_stepP rfl rfl rfl (o_move rfl) ?_
   refine f_stepP rfl rfl rfl (o_eql rfl rfl) ?_
   refine f_stepP rfl rfl rfl (o_idx sl64 rfl rfl (v) ⟨by omega, by omega, by first | omega | (simp; done) | (simp; omega)⟩) ?_
   refine f_step0 rfl rfl (o_store Tryz.sizeOf4 rfl rfl rfl rfl (by simp [boolsT]; omega) (boolsT (es.set v (decide ((R[k]'hkR).2.1[v] = c)))) (by rw [boolsT_set]) ?_)
   refine f_done ?_
   refine f_bn ?_
   refine f_tn (kh8 _ _ ?_)
   clear kh8
   refine f_region ?_
   refine f_stepP rfl rfl rfl (o_move rfl) ?_
   refine f_stepP rfl rfl rfl (o_add rfl rfl _ (wrap_i64 (by omega))) ?_
   refine f_stepP rfl rfl rfl (o_assign rfl) ?_
   refine f_done ?_
   refine f_reQ 7 rfl (v := .slice (R[k]'hkR).1 (R[k]'hkR).2.1.length (R[k]'hkR).2.2) (by rw [hAr]) ?_
   refine f_tn (f_again (v + 1, es.set v (decide ((R[k]'hkR).2.1[v] = c))) (by first | omega | (dsimp only; omega) | (simp; omega)) ⟨by omega, by simpa using hel, fun u hu => by
     rw [getD_setT (by omega)]
     by_cases e : v = u
     · subst e; rw [if_pos rfl, getD_at hvl]
     · rw [if_neg e]; exact hes u (by omega)⟩ ?_ ?_ ?_)
   · exact (by repeat (first | exact trivial | refine ⟨rfl, ?_⟩))
   · exact (by repeat (first | exact trivial | refine ⟨rfl, ?_⟩))
   · repeat (first | exact Sub.nil | refine Sub.pick ?_ | refine Sub.castO rfl ?_ | refine Sub.skip ?_)
  ·
   obtain rfl : v = (R[k]'hkR).2.1.length := by omega
   refine f_exit ?_
   refine f_te ?_
   clear kh6
   refine f_te ?_
   refine f_be ?_
   refine f_tn (kh4 _ _ ?_)
   clear kh4
   refine f_seq fun K9 kh9 => ?_
   refine f_region ?_
   refine f_stepP rfl rfl rfl (o_move rfl) ?_
   refine f_stepP rfl rfl rfl (o_assign rfl) ?_
   refine f_done ?_
   refine f_tn (kh9 _ _ ?_)
   clear kh9
   refine f_ret ?_
   exact f_fin1 [[(b18, blk (boolsT es) 4)]] Tryz.results42 rfl (by repeat (first | exact Sub.nil | refine Sub.pick ?_ | refine Sub.castO rfl ?_ | refine Sub.skip ?_)) ⟨b18, es, rfl, rfl, hel, hes⟩

set_option maxRecDepth 100000 in
set_option maxHeartbeats 4000000 in
theorem RHas_spec (N : Int) (A : Option Addr) (l : List Arc) (cap : Nat) (Ab : Option Addr) (bs : List Int) (cb : Nat) (Ac : Option Addr) (R : List Row) (cc : Nat) (q c : Int) (w : World) (hr : Ro (Fr w []) w A (l.flatMap arcCs)) (hl : l.length ≤ 9223372036854775807) (hN : I64 N) (hok : ∀ x ∈ l, ArcOk x) (hn : NestRo (Fr w []) w Ab bs Ac R) :
    Meets Tryz.prog 26 [.agg #[.int .i64 N, .slice A l.length cap], .agg #[.slice Ab bs.length cb, .slice Ac R.length cc], .int .i64 q, .int .i64 c] w [] (fun u m => u = .int .i64 (clE N l bs (rowsL R) q c) ∧ m = []) := by
 refine f_enter Tryz.func26 rfl Tryz.ntmps26 rfl Owns.nil ?_
 refine f_seq fun K1 kh1 => ?_
 refine f_region ?_
 refine f_step rfl rfl rfl (o_box rfl rfl fun b4 => ?_)
 refine f_step rfl rfl rfl (o_box rfl rfl fun b5 => ?_)
 refine f_stepP rfl rfl rfl (o_assign rfl) ?_
 refine f_done ?_
 refine f_tn (kh1 _ _ ?_)
 clear kh1
 refine f_seq fun K2 kh2 => ?_
 refine f_region ?_
 refine f_stepP rfl rfl rfl (o_loadA (vs := [_, _]) Tryz.isAgg24 Tryz.sizeOf24 rfl rfl ⟨(rdA rfl), (rdA rfl), trivial⟩) ?_
 refine f_stepP rfl rfl rfl (o_loadA (vs := [_, _]) Tryz.isAgg28 Tryz.sizeOf28 rfl rfl ⟨(rdA rfl), (rdA rfl), trivial⟩) ?_
 refine f_stepP rfl rfl rfl (o_move rfl) ?_
 refine f_step rfl rfl rfl (o_call Tryz.call41 rfl (fun w_ hp_ => RNMany_spec N A l cap Ab bs cb Ac R cc q w_ (hr.up0 hp_) hl hN hok (hn.up0 hp_)) ?_)
 rintro _ _ ⟨rfl, rfl⟩
 dsimp only [List.cons_append, List.nil_append]
 refine f_stepP rfl rfl rfl (o_move rfl) ?_
 refine f_stepP rfl rfl rfl (o_extract rfl rfl) ?_
 refine f_stepP rfl rfl rfl (o_extract rfl rfl) ?_
 refine f_stepP rfl rfl rfl (o_assign rfl) ?_
 refine f_stepP rfl rfl rfl (o_assign rfl) ?_
 refine f_done ?_
 refine f_tn (kh2 _ _ ?_)
 clear kh2
 refine f_seq fun K3 kh3 => ?_
 refine f_seq fun K4 kh4 => ?_
 refine f_region ?_
 refine f_stepP rfl rfl rfl (o_move rfl) ?_
 refine f_stepP rfl rfl rfl (o_neq rfl rfl) ?_
 refine f_done ?_
 refine f_tn (kh4 _ _ ?_)
 clear kh4
 refine f_cond rfl (fun c19 => ?_) (fun c19 => ?_)
 ·
  refine f_seq fun K5 kh5 => ?_
  refine f_region ?_
  refine f_stepP rfl rfl rfl (o_move rfl) ?_
  refine f_stepP rfl rfl rfl (o_assign rfl) ?_
  refine f_done ?_
  refine f_tn (kh5 _ _ ?_)
  clear kh5
  refine f_ret ?_
  refine f_tr ?_
  exact f_fin1 [] Tryz.results26 rfl Sub.nil ⟨by unfold clE; rw [if_pos (by simpa using c19)], rfl⟩
 ·
  have hlz : lkE N l bs (rowsL R) q = 0 := by simpa using c19
  have hce : clE N l bs (rowsL R) q c = if c < 0 ∨ maxL ((rowsL R).getD (q.toNat - 1) []) + 1 ≤ c then 120 else 0 := by unfold clE; rw [if_neg (by rw [hlz]; simp)]
  refine f_reC 9 rfl (v := .int .i64 (maxL ((rowsL R).getD (q.toNat - 1) []) + 1)) (by rw [if_neg (by rw [hlz]; simp)]) ?_
  refine f_skip ?_
  refine f_tn (kh3 _ _ ?_)
  clear kh3
  refine f_seq fun K6 kh6 => ?_
  refine f_seq fun K7 kh7 => ?_
  refine f_region ?_
  refine f_stepP rfl rfl rfl (o_move rfl) ?_
  refine f_stepP rfl rfl rfl (o_lss rfl rfl) ?_
  refine f_stepP rfl rfl rfl (o_move rfl) ?_
  refine f_splitL 23 rfl (fun g23 => ?_) (fun g23 => ?_)
  ·
   refine f_stepN rfl rfl rfl rfl rfl rfl ?_
   refine f_stepN rfl rfl rfl rfl rfl rfl ?_
   refine f_stepN rfl rfl rfl rfl rfl rfl ?_
   refine f_stepP rfl rfl rfl (o_pickT rfl rfl) ?_
   refine f_done ?_
   refine f_tn (kh7 _ _ ?_)
   clear kh7
   refine f_condT rfl ?_
   refine f_seq fun K8 kh8 => ?_
   refine f_region ?_
   refine f_stepP rfl rfl rfl (o_assign rfl) ?_
   refine f_done ?_
   refine f_tn (kh8 _ _ ?_)
   clear kh8
   refine f_ret ?_
   refine f_tr ?_
   exact f_fin1 [] Tryz.results26 rfl Sub.nil ⟨by rw [hce, if_pos (by omega)], rfl⟩
  ·
   refine f_stepPY rfl rfl rfl rfl rfl (o_move rfl) ?_
   refine f_stepPY rfl rfl rfl rfl rfl (o_move rfl) ?_
   refine f_stepPY rfl rfl rfl rfl rfl (o_geq rfl rfl) ?_
   refine f_stepP rfl rfl rfl (o_pickF rfl rfl) ?_
   refine f_done ?_
   refine f_tn (kh7 _ _ ?_)
   clear kh7
   refine f_cond rfl (fun c27 => ?_) (fun c27 => ?_)
   ·
    refine f_seq fun K9 kh9 => ?_
    refine f_region ?_
    refine f_stepP rfl rfl rfl (o_assign rfl) ?_
    refine f_done ?_
    refine f_tn (kh9 _ _ ?_)
    clear kh9
    refine f_ret ?_
    refine f_tr ?_
    exact f_fin1 [] Tryz.results26 rfl Sub.nil ⟨by rw [hce, if_pos (by omega)], rfl⟩
   ·
    refine f_skip ?_
    refine f_tn (kh6 _ _ ?_)
    clear kh6
    refine f_seq fun K10 kh10 => ?_
    refine f_region ?_
    refine f_stepP rfl rfl rfl (o_assign rfl) ?_
    refine f_done ?_
    refine f_tn (kh10 _ _ ?_)
    clear kh10
    refine f_ret ?_
    exact f_fin1 [] Tryz.results26 rfl Sub.nil ⟨by rw [hce, if_neg (by omega)], rfl⟩

set_option maxRecDepth 100000 in
set_option maxHeartbeats 4000000 in
theorem REdge_spec (n : Nat) (A : Option Addr) (l : List Arc) (cap : Nat) (Ab : Option Addr) (bs : List Int) (cb : Nat) (Ac : Option Addr) (R : List Row) (cc : Nat) (k : Nat) (c : Int) (w : World) (hr : Ro (Fr w []) w A (l.flatMap arcCs)) (hn1 : 1 ≤ n ∧ n ≤ 1024) (hlen : l.length ≤ 8192) (hgd : ∀ k (hk : k < l.length), 0 ≤ l[k].src ∧ l[k].src < (n : Int) ∧ 0 ≤ l[k].dst ∧ l[k].dst < (n : Int)) (hn : NestRo (Fr w []) w Ab bs Ac R) (hkR : k < R.length) (hkl : (R[k]'hkR).2.1.length = n) :
    Meets Tryz.prog 27 [.agg #[.int .i64 (n : Int), .slice A l.length cap], .agg #[.slice Ab bs.length cb, .slice Ac R.length cc], .int .i64 ((k : Int) + 1), .int .i64 c] w [] (fun u own' => ∃ (A' : Option Addr) (c' : Nat) (m' : Seg), u = .slice A' (bdL (R[k]'hkR).2.1 c l).length c' ∧ own' = [m'] ∧ Own 3 1 (.slice A' (bdL (R[k]'hkR).2.1 c l).length c') (bdL (R[k]'hkR).2.1 c l).length (ints (bdL (R[k]'hkR).2.1 c l)) m') := by
 refine f_enter Tryz.func27 rfl Tryz.ntmps27 rfl Owns.nil ?_
 refine f_seq fun K1 kh1 => ?_
 refine f_region ?_
 refine f_step rfl rfl rfl (o_box rfl rfl fun b4 => ?_)
 refine f_step rfl rfl rfl (o_box rfl rfl fun b5 => ?_)
 refine f_stepP rfl rfl rfl (o_assign rfl) ?_
 refine f_done ?_
 refine f_tn (kh1 _ _ ?_)
 clear kh1
 refine f_seq fun K2 kh2 => ?_
 refine f_region ?_
 refine f_stepP rfl rfl rfl (o_loadA (vs := [_, _]) Tryz.isAgg28 Tryz.sizeOf28 rfl rfl ⟨(rdA rfl), (rdA rfl), trivial⟩) ?_
 refine f_stepP rfl rfl rfl (o_move rfl) ?_
 refine f_stepP rfl rfl rfl (o_move rfl) ?_
 refine f_step rfl rfl rfl (o_call Tryz.call42 rfl (fun w_ hp_ => (by have h := RIn_spec Ab bs cb Ac R cc k c w_ (hn.up0 hp_) hkR (by omega); rw [hkl] at h; exact h)) ?_)
 rintro _ _ ⟨bI, ei, rfl, rfl, hil, hin⟩
 dsimp only [List.cons_append, List.nil_append]
 refine f_stepP rfl rfl rfl (o_assign rfl) ?_
 refine f_done ?_
 refine f_tn (kh2 _ _ ?_)
 clear kh2
 refine f_seq fun K3 kh3 => ?_
 refine f_region ?_
 refine f_stepP rfl rfl rfl (o_field fa24_0 rfl) ?_
 refine f_stepP rfl rfl rfl (o_load Tryz.isAgg3 rfl (rdA rfl)) ?_
 refine f_step rfl rfl rfl (o_make el64 rfl rfl n rfl (by omega) (by omega) (boolsT (List.replicate n false)) (reps_T n false) fun b19 => ?_)
 refine f_stepP rfl rfl rfl (o_assign rfl) ?_
 refine f_done ?_
 refine f_tn (kh3 _ _ ?_)
 clear kh3
 refine f_seq fun K4 kh4 => ?_
 refine f_seq fun K5 kh5 => ?_
 refine f_region ?_
 refine f_stepP rfl rfl rfl (o_assign rfl) ?_
 refine f_done ?_
 refine f_tn (kh5 _ _ ?_)
 clear kh5
 refine f_block ?_
 refine f_loop (α := Nat × List Bool) [4, 9, 10] (fun ⟨i, es⟩ => [(11, .int .i64 (i : Int))]) (fun ⟨i, es⟩ => [[(b19, blk (boolsT es) 4)], [(bI, blk (boolsT ei) 4)], [(b4, blk [.int .i64 (n : Int), .slice A l.length cap] 24)], [(b5, blk [.slice Ab bs.length cb, .slice Ac R.length cc] 28)]]) (fun ⟨i, es⟩ => i ≤ l.length ∧ es.length = n ∧ ∀ v, v < n → es.getD v false = edB (R[k]'hkR).2.1 c (l.take i) v) (fun ⟨i, es⟩ => l.length - i) (0, List.replicate n false) ?_ ?_ ?_ ?_
 · exact (by repeat (first | exact trivial | refine ⟨rfl, ?_⟩))
 · repeat (first | exact Sub.nil | refine Sub.pick ?_ | refine Sub.castO rfl ?_ | refine Sub.skip ?_)
 · exact ⟨Nat.zero_le _, by simp, fun v hv => by simp [edB, List.getD_eq_getElem?_getD, hv]⟩
 ·
  rintro ⟨i, es⟩ ⟨hil0, hel, hes⟩
  refine f_seq fun K6 kh6 => ?_
  refine f_seq fun K7 kh7 => ?_
  refine f_region ?_
  refine f_stepP rfl rfl rfl (o_move rfl) ?_
  refine f_stepP rfl rfl rfl (o_field fa24_1 rfl) ?_
  refine f_stepP rfl rfl rfl (o_load Tryz.isAgg22 rfl (rdA rfl)) ?_
  refine f_stepP rfl rfl rfl (o_len sl22 rfl) ?_
  refine f_stepP rfl rfl rfl (o_lss rfl rfl) ?_
  refine f_done ?_
  refine f_tn (kh7 _ _ ?_)
  clear kh7
  refine f_cond rfl (fun c24 => ?_) (fun c24 => ?_)
  ·
   have hi : i < l.length := by omega
   obtain ⟨bl, off, rfl, hS, hc⟩ := hr (flat_ne arcCs arcCs_len (by omega) hi)
   have hgi := hgd i hi
   obtain ⟨s, hs⟩ : ∃ s : Nat, l[i].src = (s : Int) := ⟨l[i].src.toNat, by omega⟩
   obtain ⟨d, hd⟩ : ∃ d : Nat, l[i].dst = (d : Int) := ⟨l[i].dst.toNat, by omega⟩
   refine f_skip ?_
   refine f_tn (kh6 _ _ ?_)
   clear kh6
   refine f_seq fun K8 kh8 => ?_
   refine f_block ?_
   refine f_seq fun K9 kh9 => ?_
   refine f_region ?_
   refine f_stepP rfl rfl rfl (o_field fa24_1 rfl) ?_
   refine f_stepP rfl rfl rfl (o_load Tryz.isAgg22 rfl (rdA rfl)) ?_
   refine f_stepP rfl rfl rfl (o_move rfl) ?_
   refine f_stepP rfl rfl rfl (o_idx sl22 rfl rfl (off + i * 3) ⟨by omega, by omega, by first | omega | (simp; done) | (simp; omega)⟩) ?_
   refine f_stepP rfl rfl rfl (o_loadA (vs := arcCs l[i]) Tryz.isAgg48 Tryz.sizeOf48 rfl rfl (roElem arcCs_len hS hc hi)) ?_
   refine f_step rfl rfl rfl (o_alloc Tryz.zeroValue48 rfl fun b12 => ?_)
   refine f_step0 rfl rfl (o_storeA Tryz.sizeOf48 rfl rfl rfl rfl (by first | exact Nat.le_of_ble_eq_true rfl | (simp; done) | (simp; omega)) (arcCs l[i]) rfl ?_)
   refine f_done ?_
   refine f_tn (kh9 _ _ ?_)
   clear kh9
   refine f_meet (α := List Bool) [4, 9, 10, 11, 12] (fun es1 => []) (fun es1 => [[(b19, blk (boolsT es1) 4)], [(b12, blk (arcCs l[i]) 48)], [(bI, blk (boolsT ei) 4)], [(b4, blk [.int .i64 (n : Int), .slice (some ⟨bl, off, none⟩) l.length cap] 24)], [(b5, blk [.slice Ab bs.length cb, .slice Ac R.length cc] 28)]]) (fun es1 => es1.length = n ∧ ∀ v, v < n → es1.getD v false = (edB (R[k]'hkR).2.1 c (l.take i) v || ed1 (R[k]'hkR).2.1 c l[i] v)) ?_ ?_
   ·
    intro K10 kh10
    refine f_seq fun K11 kh11 => ?_
    refine f_region ?_
    refine f_stepP rfl rfl rfl (o_move rfl) ?_
    refine f_stepP rfl rfl rfl (o_field fa48_0 rfl) ?_
    refine f_stepP rfl rfl rfl (o_load Tryz.isAgg3 rfl (show Rd _ _ _ _ _ (.int .i64 (s : Int)) by rw [← hs]; exact (rdA rfl))) ?_
    refine f_stepP rfl rfl rfl (o_idx sl64 rfl rfl (s) ⟨by omega, by omega, by first | omega | (simp; done) | (simp; omega)⟩) ?_
    refine f_stepP rfl rfl rfl (o_load Tryz.isAgg4 rfl (rdA (v := .bool (decide ((R[k]'hkR).2.1.getD s 0 = c))) (by rw [boolsT_at (by omega), hin s (by omega)]))) ?_
    refine f_stepP rfl rfl rfl (o_move rfl) ?_
    refine f_splitLB 37 rfl (fun g37 => ?_) (fun g37 => ?_)
    ·
     refine f_stepPY rfl rfl rfl rfl rfl (o_move rfl) ?_
     refine f_stepPY rfl rfl rfl rfl rfl (o_field fa48_1 rfl) ?_
     refine f_stepPY rfl rfl rfl rfl rfl (o_load Tryz.isAgg3 rfl (show Rd _ _ _ _ _ (.int .i64 (d : Int)) by rw [← hd]; exact (rdA rfl))) ?_
     refine f_stepPY rfl rfl rfl rfl rfl (o_idx sl64 rfl rfl (d) ⟨by omega, by omega, by first | omega | (simp; done) | (simp; omega)⟩) ?_
     refine f_stepPY rfl rfl rfl rfl rfl (o_load Tryz.isAgg4 rfl (rdA (v := .bool (decide ((R[k]'hkR).2.1.getD d 0 = c))) (by rw [boolsT_at (by omega), hin d (by omega)]))) ?_
     refine f_stepPY rfl rfl rfl rfl rfl (o_not rfl) ?_
     refine f_stepP rfl rfl rfl (o_pickT rfl rfl) ?_
     refine f_done ?_
     refine f_tn (kh11 _ _ ?_)
     clear kh11
     refine f_condB rfl (fun c44 => ?_) (fun c44 => ?_)
     ·
      refine f_region ?_
      refine f_stepP rfl rfl rfl (o_move rfl) ?_
      refine f_stepP rfl rfl rfl (o_field fa48_0 rfl) ?_
      refine f_stepP rfl rfl rfl (o_load Tryz.isAgg3 rfl (show Rd _ _ _ _ _ (.int .i64 (s : Int)) by rw [← hs]; exact (rdA rfl))) ?_
      refine f_stepP rfl rfl rfl (o_idx sl64 rfl rfl (s) ⟨by omega, by omega, by first | omega | (simp; done) | (simp; omega)⟩) ?_
      refine f_step0 rfl rfl (o_store Tryz.sizeOf4 rfl rfl rfl rfl (by simp [boolsT]; omega) (boolsT (es.set s true)) (by rw [boolsT_set]) ?_)
      refine f_done ?_
      refine f_tn (kh10 _ _ (es.set s true) ⟨by simpa using hel, fun v hv => by
        rw [getD_setT (by omega), hes v hv, ed1_eq hs hd, g37, c44]
        by_cases e : s = v <;> simp [e]⟩ ?_ ?_ ?_)
      · exact (by repeat (first | exact trivial | refine ⟨rfl, ?_⟩))
      · exact (by repeat (first | exact trivial | refine ⟨rfl, ?_⟩))
      · repeat (first | exact Sub.nil | refine Sub.pick ?_ | refine Sub.castO rfl ?_ | refine Sub.skip ?_)
     ·
      have c44f : (!decide ((R[k]'hkR).2.1.getD d 0 = c)) = false := by simpa using c44
      refine f_skip ?_
      refine f_tn (kh10 _ _ (es) ⟨hel, fun v hv => by
        rw [hes v hv, ed1_eq hs hd, g37, c44f]; simp⟩ ?_ ?_ ?_)
      · exact (by repeat (first | exact trivial | refine ⟨rfl, ?_⟩))
      · exact (by repeat (first | exact trivial | refine ⟨rfl, ?_⟩))
      · repeat (first | exact Sub.nil | refine Sub.pick ?_ | refine Sub.castO rfl ?_ | refine Sub.skip ?_)
    ·
     refine f_stepN rfl rfl rfl rfl rfl rfl ?_
     refine f_stepN rfl rfl rfl rfl rfl rfl ?_
     refine f_stepN rfl rfl rfl rfl rfl rfl ?_
     refine f_stepN rfl rfl rfl rfl rfl rfl ?_
     refine f_stepN rfl rfl rfl rfl rfl rfl ?_
     refine f_stepN rfl rfl rfl rfl rfl rfl ?_
     refine f_stepP rfl rfl rfl (o_pickF rfl rfl) ?_
     refine f_done ?_
     refine f_tn (kh11 _ _ ?_)
     clear kh11
     refine f_condF rfl ?_
     refine f_skip ?_
     refine f_tn (kh10 _ _ (es) ⟨hel, fun v hv => by
       rw [hes v hv, ed1_eq hs hd, g37]; simp⟩ ?_ ?_ ?_)
     · exact (by repeat (first | exact trivial | refine ⟨rfl, ?_⟩))
     · exact (by repeat (first | exact trivial | refine ⟨rfl, ?_⟩))
     · repeat (first | exact Sub.nil | refine Sub.pick ?_ | refine Sub.castO rfl ?_ | refine Sub.skip ?_)
   ·
    rintro es1 ⟨hel1, hes1⟩
    refine f_seq fun K12 kh12 => ?_
    refine f_region ?_
    refine f_stepP rfl rfl rfl (o_move rfl) ?_
    refine f_stepP rfl rfl rfl (o_field fa48_1 rfl) ?_
    refine f_stepP rfl rfl rfl (o_load Tryz.isAgg3 rfl (show Rd _ _ _ _ _ (.int .i64 (d : Int)) by rw [← hd]; exact (rdA rfl))) ?_
    refine f_stepP rfl rfl rfl (o_idx sl64 rfl rfl (d) ⟨by omega, by omega, by first | omega | (simp; done) | (simp; omega)⟩) ?_
    refine f_stepP rfl rfl rfl (o_load Tryz.isAgg4 rfl (rdA (v := .bool (decide ((R[k]'hkR).2.1.getD d 0 = c))) (by rw [boolsT_at (by omega), hin d (by omega)]))) ?_
    refine f_stepP rfl rfl rfl (o_move rfl) ?_
    refine f_splitLB 54 rfl (fun g54 => ?_) (fun g54 => ?_)
    ·
     refine f_stepPY rfl rfl rfl rfl rfl (o_move rfl) ?_
     refine f_stepPY rfl rfl rfl rfl rfl (o_field fa48_0 rfl) ?_
     refine f_stepPY rfl rfl rfl rfl rfl (o_load Tryz.isAgg3 rfl (show Rd _ _ _ _ _ (.int .i64 (s : Int)) by rw [← hs]; exact (rdA rfl))) ?_
     refine f_stepPY rfl rfl rfl rfl rfl (o_idx sl64 rfl rfl (s) ⟨by omega, by omega, by first | omega | (simp; done) | (simp; omega)⟩) ?_
     refine f_stepPY rfl rfl rfl rfl rfl (o_load Tryz.isAgg4 rfl (rdA (v := .bool (decide ((R[k]'hkR).2.1.getD s 0 = c))) (by rw [boolsT_at (by omega), hin s (by omega)]))) ?_
     refine f_stepPY rfl rfl rfl rfl rfl (o_not rfl) ?_
     refine f_stepP rfl rfl rfl (o_pickT rfl rfl) ?_
     refine f_done ?_
     refine f_tn (kh12 _ _ ?_)
     clear kh12
     refine f_condB rfl (fun c61 => ?_) (fun c61 => ?_)
     ·
      refine f_region ?_
      refine f_stepP rfl rfl rfl (o_move rfl) ?_
      refine f_stepP rfl rfl rfl (o_field fa48_1 rfl) ?_
      refine f_stepP rfl rfl rfl (o_load Tryz.isAgg3 rfl (show Rd _ _ _ _ _ (.int .i64 (d : Int)) by rw [← hd]; exact (rdA rfl))) ?_
      refine f_stepP rfl rfl rfl (o_idx sl64 rfl rfl (d) ⟨by omega, by omega, by first | omega | (simp; done) | (simp; omega)⟩) ?_
      refine f_step0 rfl rfl (o_store Tryz.sizeOf4 rfl rfl rfl rfl (by simp [boolsT]; omega) (boolsT (es1.set d true)) (by rw [boolsT_set]) ?_)
      refine f_done ?_
      refine f_bn ?_
      refine f_tn (kh8 _ _ ?_)
      clear kh8
      refine f_region ?_
      refine f_stepP rfl rfl rfl (o_move rfl) ?_
      refine f_stepP rfl rfl rfl (o_add rfl rfl _ (wrap_i64 (by omega))) ?_
      refine f_stepP rfl rfl rfl (o_assign rfl) ?_
      refine f_done ?_
      refine f_tn (f_again (i + 1, es1.set d true) (by first | omega | (dsimp only; omega) | (simp; omega)) ⟨by omega, by simpa using hel1, fun v hv => by
        rw [getD_setT (by omega), hes1 v hv, edB_next hi, ed2_eq hs hd, g54, c61]
        by_cases e : d = v <;> simp [e]⟩ ?_ ?_ ?_)
      · exact (by repeat (first | exact trivial | refine ⟨rfl, ?_⟩))
      · exact (by repeat (first | exact trivial | refine ⟨rfl, ?_⟩))
      · repeat (first | exact Sub.nil | refine Sub.pick ?_ | refine Sub.castO rfl ?_ | refine Sub.skip ?_)
     ·
      have c61f : (!decide ((R[k]'hkR).2.1.getD s 0 = c)) = false := by simpa using c61
      refine f_skip ?_
      refine f_bn ?_
      refine f_tn (kh8 _ _ ?_)
      clear kh8
      refine f_region ?_
      refine f_stepP rfl rfl rfl (o_move rfl) ?_
      refine f_stepP rfl rfl rfl (o_add rfl rfl _ (wrap_i64 (by omega))) ?_
      refine f_stepP rfl rfl rfl (o_assign rfl) ?_
      refine f_done ?_
      refine f_tn (f_again (i + 1, es1) (by first | omega | (dsimp only; omega) | (simp; omega)) ⟨by omega, hel1, fun v hv => by rw [hes1 v hv, edB_next hi, ed2_eq hs hd, g54, c61f]; simp⟩ ?_ ?_ ?_)
      · exact (by repeat (first | exact trivial | refine ⟨rfl, ?_⟩))
      · exact (by repeat (first | exact trivial | refine ⟨rfl, ?_⟩))
      · repeat (first | exact Sub.nil | refine Sub.pick ?_ | refine Sub.castO rfl ?_ | refine Sub.skip ?_)
    ·
     refine f_stepN rfl rfl rfl rfl rfl rfl ?_
     refine f_stepN rfl rfl rfl rfl rfl rfl ?_
     refine f_stepN rfl rfl rfl rfl rfl rfl ?_
     refine f_stepN rfl rfl rfl rfl rfl rfl ?_
     refine f_stepN rfl rfl rfl rfl rfl rfl ?_
     refine f_stepN rfl rfl rfl rfl rfl rfl ?_
     refine f_stepP rfl rfl rfl (o_pickF rfl rfl) ?_
     refine f_done ?_
     refine f_tn (kh12 _ _ ?_)
     clear kh12
     refine f_condF rfl ?_
     refine f_skip ?_
     refine f_bn ?_
     refine f_tn (kh8 _ _ ?_)
     clear kh8
     refine f_region ?_
     refine f_stepP rfl rfl rfl (o_move rfl) ?_
     refine f_stepP rfl rfl rfl (o_add rfl rfl _ (wrap_i64 (by omega))) ?_
     refine f_stepP rfl rfl rfl (o_assign rfl) ?_
     refine f_done ?_
     refine f_tn (f_again (i + 1, es1) (by first | omega | (dsimp only; omega) | (simp; omega)) ⟨by omega, hel1, fun v hv => by rw [hes1 v hv, edB_next hi, ed2_eq hs hd, g54]; simp⟩ ?_ ?_ ?_)
     · exact (by repeat (first | exact trivial | refine ⟨rfl, ?_⟩))
     · exact (by repeat (first | exact trivial | refine ⟨rfl, ?_⟩))
     · repeat (first | exact Sub.nil | refine Sub.pick ?_ | refine Sub.castO rfl ?_ | refine Sub.skip ?_)
  ·
   obtain rfl : i = l.length := by omega
   rw [List.take_length] at hes
   have htr := trues_edB hgd hel hes
   refine f_exit ?_
   refine f_te ?_
   clear kh6
   refine f_te ?_
   refine f_be ?_
   refine f_tn (kh4 _ _ ?_)
   clear kh4
   refine f_seq fun K13 kh13 => ?_
   refine f_region ?_
   refine f_stepP rfl rfl rfl (o_move rfl) ?_
   refine f_step rfl rfl rfl (o_call Tryz.call43 rfl (fun w_ hp_ => (by have h := RAllC_spec (some ⟨b19, 0, none⟩) es n w_ (roOwn (b := b19) hp_ (fun j v hj => hj)) (by omega); rw [hel] at h; exact h)) ?_)
   rintro v67 _ ⟨m67, rfl, ho67⟩
   rw [htr] at ho67
   obtain ⟨A67, c67, rfl, _⟩ := ho67.val
   dsimp only [List.cons_append, List.nil_append]
   refine f_stepP rfl rfl rfl (o_assign rfl) ?_
   refine f_done ?_
   refine f_tn (kh13 _ _ ?_)
   clear kh13
   refine f_ret ?_
   exact f_fin1 [m67] Tryz.results27 rfl (by repeat (first | exact Sub.nil | refine Sub.pick ?_ | refine Sub.castO rfl ?_ | refine Sub.skip ?_)) ⟨A67, c67, m67, rfl, rfl, ho67⟩

set_option maxRecDepth 100000 in
set_option maxHeartbeats 4000000 in
theorem RBoundary_spec (N : Int) (A : Option Addr) (l : List Arc) (cap : Nat) (Ab : Option Addr) (bs : List Int) (cb : Nat) (Ac : Option Addr) (R : List Row) (cc : Nat) (q c : Int) (w : World) (hr : Ro (Fr w []) w A (l.flatMap arcCs)) (hl : l.length ≤ 9223372036854775807) (hN : I64 N) (hok : ∀ x ∈ l, ArcOk x) (hn : NestRo (Fr w []) w Ab bs Ac R) :
    Meets Tryz.prog 9 [.agg #[.int .i64 N, .slice A l.length cap], .agg #[.slice Ab bs.length cb, .slice Ac R.length cc], .int .i64 q, .int .i64 c] w [] (fun u own' => ∃ (M : List Int) (A' : Option Addr) (c' : Nat) (m' : Seg), u = .tuple #[.slice A' M.length c', .int .i64 (clE N l bs (rowsL R) q c)] ∧ own' = [m'] ∧ Own 3 1 (.slice A' M.length c') M.length (ints M) m' ∧ (clE N l bs (rowsL R) q c ≠ 0 → M = []) ∧ (clE N l bs (rowsL R) q c = 0 → M = bdL ((rowsL R).getD (q.toNat - 1) []) c l)) := by
 refine f_enter Tryz.func9 rfl Tryz.ntmps9 rfl Owns.nil ?_
 refine f_seq fun K1 kh1 => ?_
 refine f_region ?_
 refine f_step rfl rfl rfl (o_box rfl rfl fun b4 => ?_)
 refine f_step rfl rfl rfl (o_box rfl rfl fun b5 => ?_)
 refine f_stepP rfl rfl rfl (o_assign rfl) ?_
 refine f_stepP rfl rfl rfl (o_assign rfl) ?_
 refine f_done ?_
 refine f_tn (kh1 _ _ ?_)
 clear kh1
 refine f_seq fun K2 kh2 => ?_
 refine f_seq fun K3 kh3 => ?_
 refine f_region ?_
 refine f_stepP rfl rfl rfl (o_loadA (vs := [_, _]) Tryz.isAgg24 Tryz.sizeOf24 rfl rfl ⟨(rdA rfl), (rdA rfl), trivial⟩) ?_
 refine f_stepP rfl rfl rfl (o_loadA (vs := [_, _]) Tryz.isAgg28 Tryz.sizeOf28 rfl rfl ⟨(rdA rfl), (rdA rfl), trivial⟩) ?_
 refine f_stepP rfl rfl rfl (o_move rfl) ?_
 refine f_stepP rfl rfl rfl (o_move rfl) ?_
 refine f_step rfl rfl rfl (o_call Tryz.call26 rfl (fun w_ hp_ => RHas_spec N A l cap Ab bs cb Ac R cc q c w_ (hr.up0 hp_) hl hN hok (hn.up0 hp_)) ?_)
 rintro _ _ ⟨rfl, rfl⟩
 dsimp only [List.cons_append, List.nil_append]
 refine f_stepP rfl rfl rfl (o_assign rfl) ?_
 refine f_done ?_
 refine f_tn (kh3 _ _ ?_)
 clear kh3
 refine f_seq fun K4 kh4 => ?_
 refine f_region ?_
 refine f_stepP rfl rfl rfl (o_move rfl) ?_
 refine f_stepP rfl rfl rfl (o_neq rfl rfl) ?_
 refine f_done ?_
 refine f_tn (kh4 _ _ ?_)
 clear kh4
 refine f_cond rfl (fun c17 => ?_) (fun c17 => ?_)
 ·
  refine f_seq fun K5 kh5 => ?_
  refine f_region ?_
  refine f_stepP rfl rfl rfl (o_move rfl) ?_
  refine f_stepP rfl rfl rfl (o_assign rfl) ?_
  refine f_stepP rfl rfl rfl (o_assign rfl) ?_
  refine f_done ?_
  refine f_tn (kh5 _ _ ?_)
  clear kh5
  refine f_ret ?_
  refine f_tr ?_
  exact f_fin2 [[]] Tryz.results9 rfl rfl (show Fly.Sub _ [[]] from (by repeat (first | exact Sub.nil | refine Sub.pick ?_ | refine Sub.castO rfl ?_ | refine Sub.skip ?_))) ⟨[], none, 0, [], rfl, rfl, Own.nil _ _, fun _ => rfl, fun h => absurd h (by simpa using c17)⟩
 ·
  have hcz : clE N l bs (rowsL R) q c = 0 := by simpa using c17
  obtain ⟨n, k, j, rfl, hNo, hqk, hkb, hcj, hjm⟩ := clE_zero hcz
  have hRl := hNo.len
  have hmany := hNo.many
  rw [rowsL_len] at hRl
  have hkR : k < R.length := by omega
  obtain ⟨hn1, hn2, hlen, hgd⟩ := gcheck_zero hNo.g
  have hrk := rowsL_at hkR
  have hkl := hNo.rowlen (k := k) (by omega)
  rw [hrk] at hkl
  refine f_skip ?_
  refine f_tn (kh2 _ _ ?_)
  clear kh2
  refine f_seq fun K6 kh6 => ?_
  refine f_region ?_
  refine f_stepP rfl rfl rfl (o_loadA (vs := [_, _]) Tryz.isAgg24 Tryz.sizeOf24 rfl rfl ⟨(rdA rfl), (rdA rfl), trivial⟩) ?_
  refine f_stepP rfl rfl rfl (o_loadA (vs := [_, _]) Tryz.isAgg28 Tryz.sizeOf28 rfl rfl ⟨(rdA rfl), (rdA rfl), trivial⟩) ?_
  refine f_stepP rfl rfl rfl (o_move rfl) ?_
  refine f_stepP rfl rfl rfl (o_move rfl) ?_
  refine f_step rfl rfl rfl (o_call Tryz.call27 rfl (fun w_ hp_ => (by have h := REdge_spec n A l cap Ab bs cb Ac R cc k c w_ (hr.up0 hp_) ⟨by omega, by omega⟩ hlen hgd (hn.up0 hp_) hkR hkl; rw [← hqk] at h; exact h)) ?_)
  rintro _ _ ⟨Ao, co, mo, rfl, rfl, hO⟩
  dsimp only [List.cons_append, List.nil_append]
  refine f_stepP rfl rfl rfl (o_assign rfl) ?_
  refine f_stepP rfl rfl rfl (o_assign rfl) ?_
  refine f_done ?_
  refine f_tn (kh6 _ _ ?_)
  clear kh6
  refine f_ret ?_
  exact f_fin2 [mo] Tryz.results9 rfl rfl (by repeat (first | exact Sub.nil | refine Sub.pick ?_ | refine Sub.castO rfl ?_ | refine Sub.skip ?_)) ⟨_, Ao, co, mo, by rw [hcz], rfl, hO, fun h => absurd hcz h, fun _ => by rw [show q.toNat - 1 = k by omega, hrk]⟩

set_option maxRecDepth 100000 in
set_option maxHeartbeats 4000000 in
theorem RPlace_spec (A : Option Addr) (l : List Int) (cap : Nat) (x : Int) (w : World) (hr : Ro (Fr w []) w A (ints l)) (hm : l.length ≤ 1000000) :
    Meets Tryz.prog 29 [.slice A l.length cap, .int .i64 x] w [] (fun u m => ∃ r : Int, u = .int .i64 r ∧ m = [] ∧ ((∃ i : Nat, r = (i : Int) ∧ l[i]? = some x) ∨ (r = -1 ∧ x ∉ l))) := by
 refine f_enter Tryz.func29 rfl Tryz.ntmps29 rfl Owns.nil ?_
 refine f_seq fun K1 kh1 => ?_
 refine f_region ?_
 refine f_stepP rfl rfl rfl (o_assign rfl) ?_
 refine f_done ?_
 refine f_tn (kh1 _ _ ?_)
 clear kh1
 refine f_seq fun K2 kh2 => ?_
 refine f_seq fun K3 kh3 => ?_
 refine f_region ?_
 refine f_stepP rfl rfl rfl (o_assign rfl) ?_
 refine f_done ?_
 refine f_tn (kh3 _ _ ?_)
 clear kh3
 refine f_block ?_
 refine f_loop (α := Nat) [0, 1] (fun k => [(5, .int .i64 (k : Int))]) (fun k => []) (fun k => k ≤ l.length ∧ x ∉ l.take k) (fun k => l.length - k) (0) ?_ ?_ ?_ ?_
 · exact (by repeat (first | exact trivial | refine ⟨rfl, ?_⟩))
 · repeat (first | exact Sub.nil | refine Sub.pick ?_ | refine Sub.castO rfl ?_ | refine Sub.skip ?_)
 · exact ⟨Nat.zero_le _, by simp⟩
 ·
  rintro k ⟨hkl, hno⟩
  refine f_seq fun K4 kh4 => ?_
  refine f_seq fun K5 kh5 => ?_
  refine f_region ?_
  refine f_stepP rfl rfl rfl (o_move rfl) ?_
  refine f_stepP rfl rfl rfl (o_move rfl) ?_
  refine f_stepP rfl rfl rfl (o_len sl25 rfl) ?_
  refine f_stepP rfl rfl rfl (o_lss rfl rfl) ?_
  refine f_done ?_
  refine f_tn (kh5 _ _ ?_)
  clear kh5
  refine f_cond rfl (fun c9 => ?_) (fun c9 => ?_)
  ·
   refine f_skip ?_
   refine f_tn (kh4 _ _ ?_)
   clear kh4
   refine f_seq fun K6 kh6 => ?_
   refine f_block ?_
   refine f_seq fun K7 kh7 => ?_
   refine f_region ?_
   refine f_stepP rfl rfl rfl (o_move rfl) ?_
   refine f_stepP rfl rfl rfl (o_move rfl) ?_
   have hk : k < l.length := by omega
   obtain ⟨b, o, rfl, hS, hc⟩ := hr (map_ne hk)
   refine f_stepP rfl rfl rfl (o_idx sl25 rfl rfl (o + k) ⟨by omega, by omega, by first | omega | (simp; done) | (simp; omega)⟩) ?_
   refine f_stepP rfl rfl rfl (o_load Tryz.isAgg3 rfl (roOne (enc := (.int .i64 ·)) hS hc hk)) ?_
   refine f_stepP rfl rfl rfl (o_move rfl) ?_
   refine f_stepP rfl rfl rfl (o_eql rfl rfl) ?_
   refine f_done ?_
   refine f_tn (kh7 _ _ ?_)
   clear kh7
   refine f_cond rfl (fun c17 => ?_) (fun c17 => ?_)
   ·
    refine f_seq fun K8 kh8 => ?_
    refine f_region ?_
    refine f_stepP rfl rfl rfl (o_move rfl) ?_
    refine f_stepP rfl rfl rfl (o_assign rfl) ?_
    refine f_done ?_
    refine f_tn (kh8 _ _ ?_)
    clear kh8
    refine f_ret ?_
    refine f_br ?_
    refine f_tr ?_
    refine f_tr ?_
    refine f_br ?_
    refine f_tr ?_
    exact f_fin1 [] Tryz.results29 rfl Sub.nil ⟨_, rfl, rfl, .inl ⟨k, rfl, by rw [List.getElem?_eq_getElem hk, c17]⟩⟩
   ·
    refine f_skip ?_
    refine f_bn ?_
    refine f_tn (kh6 _ _ ?_)
    clear kh6
    refine f_region ?_
    refine f_stepP rfl rfl rfl (o_move rfl) ?_
    refine f_stepP rfl rfl rfl (o_add rfl rfl _ (wrap_i64 (by omega))) ?_
    refine f_stepP rfl rfl rfl (o_assign rfl) ?_
    refine f_done ?_
    refine f_tn (f_again (k + 1) (by first | omega | (dsimp only; omega) | (simp; omega)) ⟨by omega, by rw [List.take_succ_eq_append_getElem hk, List.mem_append, List.mem_singleton]; exact fun h => h.elim hno fun e => c17 e.symm⟩ ?_ ?_ ?_)
    · exact (by repeat (first | exact trivial | refine ⟨rfl, ?_⟩))
    · exact (by repeat (first | exact trivial | refine ⟨rfl, ?_⟩))
    · repeat (first | exact Sub.nil | refine Sub.pick ?_ | refine Sub.castO rfl ?_ | refine Sub.skip ?_)
  ·
   refine f_exit ?_
   refine f_te ?_
   clear kh4
   refine f_te ?_
   refine f_be ?_
   refine f_tn (kh2 _ _ ?_)
   clear kh2
   refine f_seq fun K9 kh9 => ?_
   refine f_region ?_
   refine f_stepP rfl rfl rfl (o_assign rfl) ?_
   refine f_done ?_
   refine f_tn (kh9 _ _ ?_)
   clear kh9
   refine f_ret ?_
   obtain rfl : k = l.length := by omega
   rw [List.take_length] at hno
   exact f_fin1 [] Tryz.results29 rfl Sub.nil ⟨_, rfl, rfl, .inr ⟨rfl, hno⟩⟩

set_option maxRecDepth 100000 in
set_option maxHeartbeats 4000000 in
theorem RIndex_spec (N : Int) (A : Option Addr) (l : List Arc) (cap : Nat) (Ab : Option Addr) (bs : List Int) (cb : Nat) (Ac : Option Addr) (R : List Row) (cc : Nat) (q c v : Int) (w : World) (hr : Ro (Fr w []) w A (l.flatMap arcCs)) (hl : l.length ≤ 9223372036854775807) (hN : I64 N) (hok : ∀ x ∈ l, ArcOk x) (hn : NestRo (Fr w []) w Ab bs Ac R) :
    Meets Tryz.prog 11 [.agg #[.int .i64 N, .slice A l.length cap], .agg #[.slice Ab bs.length cb, .slice Ac R.length cc], .int .i64 q, .int .i64 c, .int .i64 v] w [] (fun u m => ∃ i : Nat, u = .tuple #[.int .i64 (i : Int), .int .i64 (ixE N l bs (rowsL R) q c v)] ∧ m = [] ∧ (ixE N l bs (rowsL R) q c v ≠ 0 → i = 0) ∧ (ixE N l bs (rowsL R) q c v = 0 → (bdL ((rowsL R).getD (q.toNat - 1) []) c l)[i]? = some v)) := by
 refine f_enter Tryz.func11 rfl Tryz.ntmps11 rfl Owns.nil ?_
 refine f_seq fun K1 kh1 => ?_
 refine f_region ?_
 refine f_step rfl rfl rfl (o_box rfl rfl fun b5 => ?_)
 refine f_step rfl rfl rfl (o_box rfl rfl fun b6 => ?_)
 refine f_stepP rfl rfl rfl (o_assign rfl) ?_
 refine f_stepP rfl rfl rfl (o_assign rfl) ?_
 refine f_done ?_
 refine f_tn (kh1 _ _ ?_)
 clear kh1
 refine f_seq fun K2 kh2 => ?_
 refine f_region ?_
 refine f_stepP rfl rfl rfl (o_loadA (vs := [_, _]) Tryz.isAgg24 Tryz.sizeOf24 rfl rfl ⟨(rdA rfl), (rdA rfl), trivial⟩) ?_
 refine f_stepP rfl rfl rfl (o_loadA (vs := [_, _]) Tryz.isAgg28 Tryz.sizeOf28 rfl rfl ⟨(rdA rfl), (rdA rfl), trivial⟩) ?_
 refine f_stepP rfl rfl rfl (o_move rfl) ?_
 refine f_stepP rfl rfl rfl (o_move rfl) ?_
 refine f_step rfl rfl rfl (o_call Tryz.call9 rfl (fun w_ hp_ => RBoundary_spec N A l cap Ab bs cb Ac R cc q c w_ (hr.up0 hp_) hl hN hok (hn.up0 hp_)) ?_)
 rintro _ _ ⟨M_, AM, cM, mM, rfl, rfl, hoM, hM1, hM0⟩
 dsimp only [List.cons_append, List.nil_append]
 refine f_stepP rfl rfl rfl (o_move rfl) ?_
 refine f_stepP rfl rfl rfl (o_extract rfl rfl) ?_
 refine f_stepP rfl rfl rfl (o_extract rfl rfl) ?_
 refine f_stepP rfl rfl rfl (o_assign rfl) ?_
 refine f_stepP rfl rfl rfl (o_assign rfl) ?_
 refine f_done ?_
 refine f_tn (kh2 _ _ ?_)
 clear kh2
 refine f_seq fun K3 kh3 => ?_
 refine f_seq fun K4 kh4 => ?_
 refine f_region ?_
 refine f_stepP rfl rfl rfl (o_move rfl) ?_
 refine f_stepP rfl rfl rfl (o_neq rfl rfl) ?_
 refine f_done ?_
 refine f_tn (kh4 _ _ ?_)
 clear kh4
 refine f_cond rfl (fun c24 => ?_) (fun c24 => ?_)
 ·
  refine f_seq fun K5 kh5 => ?_
  refine f_region ?_
  refine f_stepP rfl rfl rfl (o_move rfl) ?_
  refine f_stepP rfl rfl rfl (o_assign rfl) ?_
  refine f_stepP rfl rfl rfl (o_assign rfl) ?_
  refine f_done ?_
  refine f_tn (kh5 _ _ ?_)
  clear kh5
  refine f_ret ?_
  refine f_tr ?_
  have e : ixE N l bs (rowsL R) q c v = clE N l bs (rowsL R) q c := by unfold ixE; rw [if_pos (by simpa using c24)]
  exact f_fin2 [] Tryz.results11 rfl rfl Sub.nil ⟨0, by rw [e]; rfl, rfl, fun _ => rfl, fun h => absurd (e.symm.trans h) (by simpa using c24)⟩
 ·
  have hcz : clE N l bs (rowsL R) q c = 0 := by simpa using c24
  obtain ⟨n, k, j, hNn, hNo, hqk, hkb, hcj, hjm⟩ := clE_zero hcz
  obtain ⟨hn1, hn2, hlen, hgd⟩ := gcheck_zero hNo.g
  obtain rfl := hM0 hcz
  have hbl := bdL_len ((rowsL R).getD (q.toNat - 1) []) c l
  refine f_skip ?_
  refine f_tn (kh3 _ _ ?_)
  clear kh3
  refine f_seq fun K6 kh6 => ?_
  refine f_region ?_
  refine f_stepP rfl rfl rfl (o_move rfl) ?_
  refine f_stepP rfl rfl rfl (o_move rfl) ?_
  refine f_step rfl rfl rfl (o_call Tryz.call29 rfl (fun w_ hp_ => RPlace_spec AM (bdL ((rowsL R).getD (q.toNat - 1) []) c l) cM v w_ (seen_ro (hoM.seen hp_)) (by omega)) ?_)
  rintro _ _ ⟨r, rfl, rfl, hrr⟩
  dsimp only [List.cons_append, List.nil_append]
  refine f_stepP rfl rfl rfl (o_assign rfl) ?_
  refine f_done ?_
  refine f_tn (kh6 _ _ ?_)
  clear kh6
  refine f_seq fun K7 kh7 => ?_
  refine f_seq fun K8 kh8 => ?_
  refine f_region ?_
  refine f_stepP rfl rfl rfl (o_move rfl) ?_
  refine f_stepP rfl rfl rfl (o_lss rfl rfl) ?_
  refine f_done ?_
  refine f_tn (kh8 _ _ ?_)
  clear kh8
  refine f_cond rfl (fun c30 => ?_) (fun c30 => ?_)
  ·
   refine f_seq fun K9 kh9 => ?_
   refine f_region ?_
   refine f_stepP rfl rfl rfl (o_assign rfl) ?_
   refine f_stepP rfl rfl rfl (o_assign rfl) ?_
   refine f_done ?_
   refine f_tn (kh9 _ _ ?_)
   clear kh9
   refine f_ret ?_
   refine f_tr ?_
   have hv : v ∉ bdL ((rowsL R).getD (q.toNat - 1) []) c l := by
     rcases hrr with ⟨i, rfl, _⟩ | ⟨_, h⟩
     · omega
     · exact h
   have e : ixE N l bs (rowsL R) q c v = 5 := by unfold ixE; rw [if_neg (by rw [hcz]; simp), if_neg hv]
   exact f_fin2 [] Tryz.results11 rfl rfl Sub.nil ⟨0, by rw [e]; rfl, rfl, fun _ => rfl, fun h => absurd (e.symm.trans h) (by decide)⟩
  ·
   refine f_skip ?_
   refine f_tn (kh7 _ _ ?_)
   clear kh7
   refine f_seq fun K10 kh10 => ?_
   refine f_region ?_
   refine f_stepP rfl rfl rfl (o_move rfl) ?_
   refine f_stepP rfl rfl rfl (o_assign rfl) ?_
   refine f_stepP rfl rfl rfl (o_assign rfl) ?_
   refine f_done ?_
   refine f_tn (kh10 _ _ ?_)
   clear kh10
   refine f_ret ?_
   obtain ⟨i, rfl, hi⟩ := hrr.resolve_right (fun h => by omega)
   have hv : v ∈ bdL ((rowsL R).getD (q.toNat - 1) []) c l := List.mem_of_getElem? hi
   have e : ixE N l bs (rowsL R) q c v = 0 := by unfold ixE; rw [if_neg (by rw [hcz]; simp), if_pos hv]
   exact f_fin2 [] Tryz.results11 rfl rfl Sub.nil ⟨i, by rw [e], rfl, fun h => absurd e h, fun _ => hi⟩

set_option maxRecDepth 100000 in
set_option maxHeartbeats 4000000 in
theorem RInside_spec (n : Nat) (A : Option Addr) (l : List Arc) (cap : Nat) (Ab : Option Addr) (bs : List Int) (cb : Nat) (Ac : Option Addr) (R : List Row) (cc : Nat) (k : Nat) (c : Int) (w : World) (hr : Ro (Fr w []) w A (l.flatMap arcCs)) (hn1 : 1 ≤ n ∧ n ≤ 1024) (hlen : l.length ≤ 8192) (hgd : ∀ k (hk : k < l.length), 0 ≤ l[k].src ∧ l[k].src < (n : Int) ∧ 0 ≤ l[k].dst ∧ l[k].dst < (n : Int)) (hn : NestRo (Fr w []) w Ab bs Ac R) (hkR : k < R.length) (hkl : (R[k]'hkR).2.1.length = n) :
    Meets Tryz.prog 32 [.agg #[.int .i64 (n : Int), .slice A l.length cap], .agg #[.slice Ab bs.length cb, .slice Ac R.length cc], .int .i64 ((k : Int) + 1), .int .i64 c] w [] (fun u own' => ∃ (A' : Option Addr) (c' : Nat) (m' : Seg), u = .slice A' (idxs (inP (R[k]'hkR).2.1 c) l).length c' ∧ own' = [m'] ∧ Own 3 1 (.slice A' (idxs (inP (R[k]'hkR).2.1 c) l).length c') (idxs (inP (R[k]'hkR).2.1 c) l).length (ints (idxs (inP (R[k]'hkR).2.1 c) l)) m') := by
 refine f_enter Tryz.func32 rfl Tryz.ntmps32 rfl Owns.nil ?_
 refine f_seq fun K1 kh1 => ?_
 refine f_region ?_
 refine f_step rfl rfl rfl (o_box rfl rfl fun b4 => ?_)
 refine f_step rfl rfl rfl (o_box rfl rfl fun b5 => ?_)
 refine f_stepP rfl rfl rfl (o_assign rfl) ?_
 refine f_done ?_
 refine f_tn (kh1 _ _ ?_)
 clear kh1
 refine f_seq fun K2 kh2 => ?_
 refine f_region ?_
 refine f_stepP rfl rfl rfl (o_loadA (vs := [_, _]) Tryz.isAgg28 Tryz.sizeOf28 rfl rfl ⟨(rdA rfl), (rdA rfl), trivial⟩) ?_
 refine f_stepP rfl rfl rfl (o_move rfl) ?_
 refine f_stepP rfl rfl rfl (o_move rfl) ?_
 refine f_step rfl rfl rfl (o_call Tryz.call42 rfl (fun w_ hp_ => (by have h := RIn_spec Ab bs cb Ac R cc k c w_ (hn.up0 hp_) hkR (by omega); rw [hkl] at h; exact h)) ?_)
 rintro _ _ ⟨bI, ei, rfl, rfl, hil, hin⟩
 dsimp only [List.cons_append, List.nil_append]
 refine f_stepP rfl rfl rfl (o_assign rfl) ?_
 refine f_done ?_
 refine f_tn (kh2 _ _ ?_)
 clear kh2
 refine f_seq fun K3 kh3 => ?_
 refine f_region ?_
 refine f_stepP rfl rfl rfl (o_assign rfl) ?_
 refine f_done ?_
 refine f_tn (kh3 _ _ ?_)
 clear kh3
 refine f_seq fun K4 kh4 => ?_
 refine f_seq fun K5 kh5 => ?_
 refine f_region ?_
 refine f_stepP rfl rfl rfl (o_assign rfl) ?_
 refine f_done ?_
 refine f_tn (kh5 _ _ ?_)
 clear kh5
 refine f_block ?_
 refine f_loop (α := Nat × Value × Seg) [4, 9] (fun ⟨i, ov, om⟩ => [(11, .int .i64 (i : Int)), (10, ov)]) (fun ⟨i, ov, om⟩ => [om, [(bI, blk (boolsT ei) 4)], [(b4, blk [.int .i64 (n : Int), .slice A l.length cap] 24)]]) (fun ⟨i, ov, om⟩ => i ≤ l.length ∧ Own 3 1 ov (idxs (inP (R[k]'hkR).2.1 c) (l.take i)).length (ints (idxs (inP (R[k]'hkR).2.1 c) (l.take i))) om) (fun ⟨i, ov, om⟩ => l.length - i) (0, .slice none 0 0, []) ?_ ?_ ?_ ?_
 · exact (by repeat (first | exact trivial | refine ⟨rfl, ?_⟩))
 · repeat (first | exact Sub.nil | refine Sub.pick ?_ | refine Sub.castO rfl ?_ | refine Sub.skip ?_)
 · exact ⟨Nat.zero_le _, Own.nil _ _⟩
 ·
  rintro ⟨i, ov, om⟩ ⟨hil0, hO⟩
  have hid := idxs_len_leC (inP (R[k]'hkR).2.1 c) (l.take i)
  rw [List.length_take, Nat.min_eq_left hil0] at hid
  obtain ⟨Ao, co, rfl, hco⟩ := hO.val
  refine f_seq fun K6 kh6 => ?_
  refine f_seq fun K7 kh7 => ?_
  refine f_region ?_
  refine f_stepP rfl rfl rfl (o_move rfl) ?_
  refine f_stepP rfl rfl rfl (o_field fa24_1 rfl) ?_
  refine f_stepP rfl rfl rfl (o_load Tryz.isAgg22 rfl (rdA rfl)) ?_
  refine f_stepP rfl rfl rfl (o_len sl22 rfl) ?_
  refine f_stepP rfl rfl rfl (o_lss rfl rfl) ?_
  refine f_done ?_
  refine f_tn (kh7 _ _ ?_)
  clear kh7
  refine f_cond rfl (fun c20 => ?_) (fun c20 => ?_)
  ·
   have hi : i < l.length := by omega
   obtain ⟨bl, off, rfl, hS, hc⟩ := hr (flat_ne arcCs arcCs_len (by omega) hi)
   have hgi := hgd i hi
   obtain ⟨s, hs⟩ : ∃ s : Nat, l[i].src = (s : Int) := ⟨l[i].src.toNat, by omega⟩
   obtain ⟨d, hd⟩ : ∃ d : Nat, l[i].dst = (d : Int) := ⟨l[i].dst.toNat, by omega⟩
   refine f_skip ?_
   refine f_tn (kh6 _ _ ?_)
   clear kh6
   refine f_seq fun K8 kh8 => ?_
   refine f_block ?_
   refine f_seq fun K9 kh9 => ?_
   refine f_region ?_
   refine f_stepP rfl rfl rfl (o_move rfl) ?_
   refine f_stepP rfl rfl rfl (o_field fa24_1 rfl) ?_
   refine f_stepP rfl rfl rfl (o_load Tryz.isAgg22 rfl (rdA rfl)) ?_
   refine f_stepP rfl rfl rfl (o_move rfl) ?_
   refine f_stepP rfl rfl rfl (o_idx sl22 rfl rfl (off + i * 3) ⟨by omega, by omega, by first | omega | (simp; done) | (simp; omega)⟩) ?_
   refine f_stepP rfl rfl rfl (o_field fa48_0 rfl) ?_
   refine f_stepP rfl rfl rfl (o_load Tryz.isAgg3 rfl (show Rd _ _ _ _ _ (.int .i64 (s : Int)) by rw [← hs]; exact (roElem arcCs_len hS hc hi).1)) ?_
   refine f_stepP rfl rfl rfl (o_idx sl64 rfl rfl (s) ⟨by omega, by omega, by first | omega | (simp; done) | (simp; omega)⟩) ?_
   refine f_stepP rfl rfl rfl (o_load Tryz.isAgg4 rfl (rdA (v := .bool (decide ((R[k]'hkR).2.1.getD s 0 = c))) (by rw [boolsT_at (by omega), hin s (by omega)]))) ?_
   refine f_stepP rfl rfl rfl (o_move rfl) ?_
   refine f_splitLB 32 rfl (fun g32 => ?_) (fun g32 => ?_)
   ·
    refine f_stepPY rfl rfl rfl rfl rfl (o_move rfl) ?_
    refine f_stepPY rfl rfl rfl rfl rfl (o_field fa24_1 rfl) ?_
    refine f_stepPY rfl rfl rfl rfl rfl (o_load Tryz.isAgg22 rfl (rdA rfl)) ?_
    refine f_stepPY rfl rfl rfl rfl rfl (o_move rfl) ?_
    refine f_stepPY rfl rfl rfl rfl rfl (o_idx sl22 rfl rfl (off + i * 3) ⟨by omega, by omega, by first | omega | (simp; done) | (simp; omega)⟩) ?_
    refine f_stepPY rfl rfl rfl rfl rfl (o_field fa48_1 rfl) ?_
    refine f_stepPY rfl rfl rfl rfl rfl (o_load Tryz.isAgg3 rfl (show Rd _ _ _ _ _ (.int .i64 (d : Int)) by rw [← hd]; exact (roElem arcCs_len hS hc hi).2.1)) ?_
    refine f_stepPY rfl rfl rfl rfl rfl (o_idx sl64 rfl rfl (d) ⟨by omega, by omega, by first | omega | (simp; done) | (simp; omega)⟩) ?_
    refine f_stepPY rfl rfl rfl rfl rfl (o_load Tryz.isAgg4 rfl (rdA (v := .bool (decide ((R[k]'hkR).2.1.getD d 0 = c))) (by rw [boolsT_at (by omega), hin d (by omega)]))) ?_
    refine f_stepP rfl rfl rfl (o_pickT rfl rfl) ?_
    refine f_done ?_
    refine f_tn (kh9 _ _ ?_)
    clear kh9
    refine f_condB rfl (fun c42 => ?_) (fun c42 => ?_)
    ·
     have c42t : decide ((R[k]'hkR).2.1.getD d 0 = c) = true := by simpa using c42
     refine f_region ?_
     refine f_stepP rfl rfl rfl (o_move rfl) ?_
     refine f_stepP rfl rfl rfl (o_move rfl) ?_
     refine f_step rfl rfl rfl (o_slice1 el25 (by omega) rfl rfl rfl fun b45 => ?_)
     refine f_step rfl rfl rfl (o_append el25 rfl rfl hO (ys := [.int .i64 (i : Int)]) ⟨(rdA rfl), trivial⟩ rfl rfl (by omega) (by omega) fun v46 m46 o46 => ?_)
     refine f_stepP rfl rfl rfl (o_assign rfl) ?_
     refine f_done ?_
     refine f_bn ?_
     refine f_tn (kh8 _ _ ?_)
     clear kh8
     refine f_region ?_
     refine f_stepP rfl rfl rfl (o_move rfl) ?_
     refine f_stepP rfl rfl rfl (o_add rfl rfl _ (wrap_i64 (by omega))) ?_
     refine f_stepP rfl rfl rfl (o_assign rfl) ?_
     refine f_done ?_
     refine f_tn (f_again (i + 1, v46, m46) (by first | omega | (dsimp only; omega) | (simp; omega)) ⟨by omega, by rw [idxs_yes hi (by unfold inP; rw [hs, hd, Int.toNat_natCast, Int.toNat_natCast, g32, c42t]; rfl), List.length_append, ints_append]; exact o46⟩ ?_ ?_ ?_)
     · exact (by repeat (first | exact trivial | refine ⟨rfl, ?_⟩))
     · exact (by repeat (first | exact trivial | refine ⟨rfl, ?_⟩))
     · repeat (first | exact Sub.nil | refine Sub.pick ?_ | refine Sub.castO rfl ?_ | refine Sub.skip ?_)
    ·
     have c42f : decide ((R[k]'hkR).2.1.getD d 0 = c) = false := by simpa using c42
     refine f_skip ?_
     refine f_bn ?_
     refine f_tn (kh8 _ _ ?_)
     clear kh8
     refine f_region ?_
     refine f_stepP rfl rfl rfl (o_move rfl) ?_
     refine f_stepP rfl rfl rfl (o_add rfl rfl _ (wrap_i64 (by omega))) ?_
     refine f_stepP rfl rfl rfl (o_assign rfl) ?_
     refine f_done ?_
     refine f_tn (f_again (i + 1, .slice Ao (idxs (inP (R[k]'hkR).2.1 c) (l.take i)).length co, om) (by first | omega | (dsimp only; omega) | (simp; omega)) ⟨by omega, by rw [idxs_no hi (by unfold inP; rw [hs, hd, Int.toNat_natCast, Int.toNat_natCast, c42f, Bool.and_false])]; exact hO⟩ ?_ ?_ ?_)
     · exact (by repeat (first | exact trivial | refine ⟨rfl, ?_⟩))
     · exact (by repeat (first | exact trivial | refine ⟨rfl, ?_⟩))
     · repeat (first | exact Sub.nil | refine Sub.pick ?_ | refine Sub.castO rfl ?_ | refine Sub.skip ?_)
   ·
    refine f_stepN rfl rfl rfl rfl rfl rfl ?_
    refine f_stepN rfl rfl rfl rfl rfl rfl ?_
    refine f_stepN rfl rfl rfl rfl rfl rfl ?_
    refine f_stepN rfl rfl rfl rfl rfl rfl ?_
    refine f_stepN rfl rfl rfl rfl rfl rfl ?_
    refine f_stepN rfl rfl rfl rfl rfl rfl ?_
    refine f_stepN rfl rfl rfl rfl rfl rfl ?_
    refine f_stepN rfl rfl rfl rfl rfl rfl ?_
    refine f_stepN rfl rfl rfl rfl rfl rfl ?_
    refine f_stepP rfl rfl rfl (o_pickF rfl rfl) ?_
    refine f_done ?_
    refine f_tn (kh9 _ _ ?_)
    clear kh9
    refine f_condF rfl ?_
    refine f_skip ?_
    refine f_bn ?_
    refine f_tn (kh8 _ _ ?_)
    clear kh8
    refine f_region ?_
    refine f_stepP rfl rfl rfl (o_move rfl) ?_
    refine f_stepP rfl rfl rfl (o_add rfl rfl _ (wrap_i64 (by omega))) ?_
    refine f_stepP rfl rfl rfl (o_assign rfl) ?_
    refine f_done ?_
    refine f_tn (f_again (i + 1, .slice Ao (idxs (inP (R[k]'hkR).2.1 c) (l.take i)).length co, om) (by first | omega | (dsimp only; omega) | (simp; omega)) ⟨by omega, by rw [idxs_no hi (by unfold inP; rw [hs, Int.toNat_natCast, g32, Bool.false_and])]; exact hO⟩ ?_ ?_ ?_)
    · exact (by repeat (first | exact trivial | refine ⟨rfl, ?_⟩))
    · exact (by repeat (first | exact trivial | refine ⟨rfl, ?_⟩))
    · repeat (first | exact Sub.nil | refine Sub.pick ?_ | refine Sub.castO rfl ?_ | refine Sub.skip ?_)
  ·
   obtain rfl : i = l.length := by omega
   rw [List.take_length] at hO hid hco
   refine f_reC 10 rfl (v := .slice Ao (idxs (inP (R[k]'hkR).2.1 c) l).length co) (by rw [List.take_length]) ?_
   refine f_exit ?_
   refine f_te ?_
   clear kh6
   refine f_te ?_
   refine f_be ?_
   refine f_tn (kh4 _ _ ?_)
   clear kh4
   refine f_seq fun K10 kh10 => ?_
   refine f_region ?_
   refine f_stepP rfl rfl rfl (o_move rfl) ?_
   refine f_stepP rfl rfl rfl (o_assign rfl) ?_
   refine f_done ?_
   refine f_tn (kh10 _ _ ?_)
   clear kh10
   refine f_ret ?_
   exact f_fin1 [om] Tryz.results32 rfl (by repeat (first | exact Sub.nil | refine Sub.pick ?_ | refine Sub.castO rfl ?_ | refine Sub.skip ?_)) ⟨Ao, co, om, rfl, rfl, hO⟩

set_option maxRecDepth 100000 in
set_option maxHeartbeats 4000000 in
theorem RInner_spec (N : Int) (A : Option Addr) (l : List Arc) (cap : Nat) (Ab : Option Addr) (bs : List Int) (cb : Nat) (Ac : Option Addr) (R : List Row) (cc : Nat) (q c : Int) (w : World) (hr : Ro (Fr w []) w A (l.flatMap arcCs)) (hl : l.length ≤ 9223372036854775807) (hN : I64 N) (hok : ∀ x ∈ l, ArcOk x) (hn : NestRo (Fr w []) w Ab bs Ac R) :
    Meets Tryz.prog 14 [.agg #[.int .i64 N, .slice A l.length cap], .agg #[.slice Ab bs.length cb, .slice Ac R.length cc], .int .i64 q, .int .i64 c] w [] (fun u own' => ∃ (M : List Int) (A' : Option Addr) (c' : Nat) (m' : Seg), u = .tuple #[.slice A' M.length c', .int .i64 (clE N l bs (rowsL R) q c)] ∧ own' = [m'] ∧ Own 3 1 (.slice A' M.length c') M.length (ints M) m' ∧ (clE N l bs (rowsL R) q c ≠ 0 → M = []) ∧ (clE N l bs (rowsL R) q c = 0 → M = idxs (inP ((rowsL R).getD (q.toNat - 1) []) c) l)) := by
 refine f_enter Tryz.func14 rfl Tryz.ntmps14 rfl Owns.nil ?_
 refine f_seq fun K1 kh1 => ?_
 refine f_region ?_
 refine f_step rfl rfl rfl (o_box rfl rfl fun b4 => ?_)
 refine f_step rfl rfl rfl (o_box rfl rfl fun b5 => ?_)
 refine f_stepP rfl rfl rfl (o_assign rfl) ?_
 refine f_stepP rfl rfl rfl (o_assign rfl) ?_
 refine f_done ?_
 refine f_tn (kh1 _ _ ?_)
 clear kh1
 refine f_seq fun K2 kh2 => ?_
 refine f_seq fun K3 kh3 => ?_
 refine f_region ?_
 refine f_stepP rfl rfl rfl (o_loadA (vs := [_, _]) Tryz.isAgg24 Tryz.sizeOf24 rfl rfl ⟨(rdA rfl), (rdA rfl), trivial⟩) ?_
 refine f_stepP rfl rfl rfl (o_loadA (vs := [_, _]) Tryz.isAgg28 Tryz.sizeOf28 rfl rfl ⟨(rdA rfl), (rdA rfl), trivial⟩) ?_
 refine f_stepP rfl rfl rfl (o_move rfl) ?_
 refine f_stepP rfl rfl rfl (o_move rfl) ?_
 refine f_step rfl rfl rfl (o_call Tryz.call26 rfl (fun w_ hp_ => RHas_spec N A l cap Ab bs cb Ac R cc q c w_ (hr.up0 hp_) hl hN hok (hn.up0 hp_)) ?_)
 rintro _ _ ⟨rfl, rfl⟩
 dsimp only [List.cons_append, List.nil_append]
 refine f_stepP rfl rfl rfl (o_assign rfl) ?_
 refine f_done ?_
 refine f_tn (kh3 _ _ ?_)
 clear kh3
 refine f_seq fun K4 kh4 => ?_
 refine f_region ?_
 refine f_stepP rfl rfl rfl (o_move rfl) ?_
 refine f_stepP rfl rfl rfl (o_neq rfl rfl) ?_
 refine f_done ?_
 refine f_tn (kh4 _ _ ?_)
 clear kh4
 refine f_cond rfl (fun c17 => ?_) (fun c17 => ?_)
 ·
  refine f_seq fun K5 kh5 => ?_
  refine f_region ?_
  refine f_stepP rfl rfl rfl (o_move rfl) ?_
  refine f_stepP rfl rfl rfl (o_assign rfl) ?_
  refine f_stepP rfl rfl rfl (o_assign rfl) ?_
  refine f_done ?_
  refine f_tn (kh5 _ _ ?_)
  clear kh5
  refine f_ret ?_
  refine f_tr ?_
  exact f_fin2 [[]] Tryz.results14 rfl rfl (show Fly.Sub _ [[]] from (by repeat (first | exact Sub.nil | refine Sub.pick ?_ | refine Sub.castO rfl ?_ | refine Sub.skip ?_))) ⟨[], none, 0, [], rfl, rfl, Own.nil _ _, fun _ => rfl, fun h => absurd h (by simpa using c17)⟩
 ·
  have hcz : clE N l bs (rowsL R) q c = 0 := by simpa using c17
  obtain ⟨n, k, j, rfl, hNo, hqk, hkb, hcj, hjm⟩ := clE_zero hcz
  have hRl := hNo.len
  have hmany := hNo.many
  rw [rowsL_len] at hRl
  have hkR : k < R.length := by omega
  obtain ⟨hn1, hn2, hlen, hgd⟩ := gcheck_zero hNo.g
  have hrk := rowsL_at hkR
  have hkl := hNo.rowlen (k := k) (by omega)
  rw [hrk] at hkl
  refine f_skip ?_
  refine f_tn (kh2 _ _ ?_)
  clear kh2
  refine f_seq fun K6 kh6 => ?_
  refine f_region ?_
  refine f_stepP rfl rfl rfl (o_loadA (vs := [_, _]) Tryz.isAgg24 Tryz.sizeOf24 rfl rfl ⟨(rdA rfl), (rdA rfl), trivial⟩) ?_
  refine f_stepP rfl rfl rfl (o_loadA (vs := [_, _]) Tryz.isAgg28 Tryz.sizeOf28 rfl rfl ⟨(rdA rfl), (rdA rfl), trivial⟩) ?_
  refine f_stepP rfl rfl rfl (o_move rfl) ?_
  refine f_stepP rfl rfl rfl (o_move rfl) ?_
  refine f_step rfl rfl rfl (o_call Tryz.call32 rfl (fun w_ hp_ => (by have h := RInside_spec n A l cap Ab bs cb Ac R cc k c w_ (hr.up0 hp_) ⟨by omega, by omega⟩ hlen hgd (hn.up0 hp_) hkR hkl; rw [← hqk] at h; exact h)) ?_)
  rintro _ _ ⟨Ao, co, mo, rfl, rfl, hO⟩
  dsimp only [List.cons_append, List.nil_append]
  refine f_stepP rfl rfl rfl (o_assign rfl) ?_
  refine f_stepP rfl rfl rfl (o_assign rfl) ?_
  refine f_done ?_
  refine f_tn (kh6 _ _ ?_)
  clear kh6
  refine f_ret ?_
  exact f_fin2 [mo] Tryz.results14 rfl rfl (by repeat (first | exact Sub.nil | refine Sub.pick ?_ | refine Sub.castO rfl ?_ | refine Sub.skip ?_)) ⟨_, Ao, co, mo, by rw [hcz], rfl, hO, fun h => absurd hcz h, fun _ => by rw [show q.toNat - 1 = k by omega, hrk]⟩

set_option maxRecDepth 100000 in
set_option maxHeartbeats 4000000 in
theorem RBetween_spec (N : Int) (A : Option Addr) (l : List Arc) (cap : Nat) (Ab : Option Addr) (bs : List Int) (cb : Nat) (Ac : Option Addr) (R : List Row) (cc : Nat) (q c : Int) (w : World) (hr : Ro (Fr w []) w A (l.flatMap arcCs)) (hl : l.length ≤ 9223372036854775807) (hN : I64 N) (hok : ∀ x ∈ l, ArcOk x) (hn : NestRo (Fr w []) w Ab bs Ac R) :
    Meets Tryz.prog 16 [.agg #[.int .i64 N, .slice A l.length cap], .agg #[.slice Ab bs.length cb, .slice Ac R.length cc], .int .i64 q, .int .i64 c] w [] (fun u own' => ∃ (M : List Int) (A' : Option Addr) (c' : Nat) (m' : Seg), u = .tuple #[.slice A' M.length c', .int .i64 (bwE N l bs (rowsL R) q c)] ∧ own' = [m'] ∧ Own 3 1 (.slice A' M.length c') M.length (ints M) m' ∧ (bwE N l bs (rowsL R) q c ≠ 0 → M = []) ∧ (bwE N l bs (rowsL R) q c = 0 → M = idxs (btP ((rowsL R).getD (q.toNat - 1) []) ((rowsL R).getD (q.toNat - 2) []) c) l)) := by
 refine f_enter Tryz.func16 rfl Tryz.ntmps16 rfl Owns.nil ?_
 refine f_seq fun K1 kh1 => ?_
 refine f_region ?_
 refine f_step rfl rfl rfl (o_box rfl rfl fun b4 => ?_)
 refine f_step rfl rfl rfl (o_box rfl rfl fun b5 => ?_)
 refine f_stepP rfl rfl rfl (o_assign rfl) ?_
 refine f_stepP rfl rfl rfl (o_assign rfl) ?_
 refine f_done ?_
 refine f_tn (kh1 _ _ ?_)
 clear kh1
 refine f_seq fun K2 kh2 => ?_
 refine f_region ?_
 refine f_stepP rfl rfl rfl (o_loadA (vs := [_, _]) Tryz.isAgg24 Tryz.sizeOf24 rfl rfl ⟨(rdA rfl), (rdA rfl), trivial⟩) ?_
 refine f_stepP rfl rfl rfl (o_loadA (vs := [_, _]) Tryz.isAgg28 Tryz.sizeOf28 rfl rfl ⟨(rdA rfl), (rdA rfl), trivial⟩) ?_
 refine f_stepP rfl rfl rfl (o_move rfl) ?_
 refine f_stepP rfl rfl rfl (o_move rfl) ?_
 refine f_step rfl rfl rfl (o_call Tryz.call14 rfl (fun w_ hp_ => RInner_spec N A l cap Ab bs cb Ac R cc q c w_ (hr.up0 hp_) hl hN hok (hn.up0 hp_)) ?_)
 rintro _ _ ⟨M_, AM, cM, mM, rfl, rfl, hoM, hM1, hM0⟩
 dsimp only [List.cons_append, List.nil_append]
 refine f_stepP rfl rfl rfl (o_move rfl) ?_
 refine f_stepP rfl rfl rfl (o_extract rfl rfl) ?_
 refine f_stepP rfl rfl rfl (o_extract rfl rfl) ?_
 refine f_stepP rfl rfl rfl (o_assign rfl) ?_
 refine f_stepP rfl rfl rfl (o_assign rfl) ?_
 refine f_done ?_
 refine f_tn (kh2 _ _ ?_)
 clear kh2
 refine f_seq fun K3 kh3 => ?_
 refine f_seq fun K4 kh4 => ?_
 refine f_region ?_
 refine f_stepP rfl rfl rfl (o_move rfl) ?_
 refine f_stepP rfl rfl rfl (o_neq rfl rfl) ?_
 refine f_done ?_
 refine f_tn (kh4 _ _ ?_)
 clear kh4
 refine f_cond rfl (fun c21 => ?_) (fun c21 => ?_)
 ·
  refine f_seq fun K5 kh5 => ?_
  refine f_region ?_
  refine f_stepP rfl rfl rfl (o_move rfl) ?_
  refine f_stepP rfl rfl rfl (o_assign rfl) ?_
  refine f_stepP rfl rfl rfl (o_assign rfl) ?_
  refine f_done ?_
  refine f_tn (kh5 _ _ ?_)
  clear kh5
  refine f_ret ?_
  refine f_tr ?_
  have e : bwE N l bs (rowsL R) q c = clE N l bs (rowsL R) q c := by unfold bwE; rw [if_pos (by simpa using c21)]
  exact f_fin2 [[]] Tryz.results16 rfl rfl (show Fly.Sub _ [[]] from (by repeat (first | exact Sub.nil | refine Sub.pick ?_ | refine Sub.castO rfl ?_ | refine Sub.skip ?_))) ⟨[], none, 0, [], by rw [e]; rfl, rfl, Own.nil _ _, fun _ => rfl, fun h => absurd (e.symm.trans h) (by simpa using c21)⟩
 ·
  have hcz : clE N l bs (rowsL R) q c = 0 := by simpa using c21
  obtain ⟨n, k, j, rfl, hNo, hqk, hkb, hcj, hjm⟩ := clE_zero hcz
  have hRl := hNo.len
  have hmany := hNo.many
  rw [rowsL_len] at hRl
  have hkR : k < R.length := by omega
  obtain ⟨hn1, hn2, hlen, hgd⟩ := gcheck_zero hNo.g
  have hrk := rowsL_at hkR
  have hkl := hNo.rowlen (k := k) (by omega)
  rw [hrk] at hkl
  have hM0' := hM0 hcz
  rw [show q.toNat - 1 = k by omega, hrk] at hM0'
  obtain rfl := hM0'
  have hid := idxs_len_leC (inP (R[k]'hkR).2.1 c) l
  have hXr : ∀ x ∈ idxs (inP (R[k]'hkR).2.1 c) l, 0 ≤ x ∧ x < (l.length : Int) := fun x hx => by obtain ⟨u, hu, rfl, _⟩ := idxs_memC.1 hx; omega
  refine f_skip ?_
  refine f_tn (kh3 _ _ ?_)
  clear kh3
  refine f_seq fun K6 kh6 => ?_
  refine f_seq fun K7 kh7 => ?_
  refine f_region ?_
  refine f_stepP rfl rfl rfl (o_move rfl) ?_
  refine f_stepP rfl rfl rfl (o_eql rfl rfl) ?_
  refine f_done ?_
  refine f_tn (kh7 _ _ ?_)
  clear kh7
  refine f_cond rfl (fun c24 => ?_) (fun c24 => ?_)
  ·
   refine f_seq fun K8 kh8 => ?_
   refine f_region ?_
   refine f_stepP rfl rfl rfl (o_assign rfl) ?_
   refine f_stepP rfl rfl rfl (o_assign rfl) ?_
   refine f_done ?_
   refine f_tn (kh8 _ _ ?_)
   clear kh8
   refine f_ret ?_
   refine f_tr ?_
   have e : bwE (n : Int) l bs (rowsL R) q c = 111 := by unfold bwE; rw [if_neg (by rw [hcz]; simp), if_pos (by omega)]
   exact f_fin2 [[]] Tryz.results16 rfl rfl (show Fly.Sub _ [[]] from (by repeat (first | exact Sub.nil | refine Sub.pick ?_ | refine Sub.castO rfl ?_ | refine Sub.skip ?_))) ⟨[], none, 0, [], by rw [e]; rfl, rfl, Own.nil _ _, fun _ => rfl, fun h => absurd (e.symm.trans h) (by decide)⟩
  ·
   obtain ⟨k1, hk1⟩ : ∃ k1, k = k1 + 1 := ⟨k - 1, by omega⟩
   have hkR1 : k1 < R.length := by omega
   have hrk1 := rowsL_at hkR1
   have hkl1 := hNo.rowlen (k := k1) (by omega)
   rw [hrk1] at hkl1
   refine f_skip ?_
   refine f_tn (kh6 _ _ ?_)
   clear kh6
   refine f_seq fun K9 kh9 => ?_
   refine f_region ?_
   refine f_stepP rfl rfl rfl (o_loadA (vs := [_, _]) Tryz.isAgg24 Tryz.sizeOf24 rfl rfl ⟨(rdA rfl), (rdA rfl), trivial⟩) ?_
   refine f_stepP rfl rfl rfl (o_loadA (vs := [_, _]) Tryz.isAgg28 Tryz.sizeOf28 rfl rfl ⟨(rdA rfl), (rdA rfl), trivial⟩) ?_
   refine f_stepP rfl rfl rfl (o_move rfl) ?_
   refine f_stepP rfl rfl rfl (o_sub rfl rfl _ (Eq.trans (wrap_i64 (by omega)) (show _ = ((k1 : Int) + 1) by omega))) ?_
   refine f_stepP rfl rfl rfl (o_move rfl) ?_
   refine f_step rfl rfl rfl (o_call Tryz.call34 rfl (fun w_ hp_ => (by have h := RAcross_spec n A l cap Ab bs cb Ac R cc k1 AM (idxs (inP (R[k]'hkR).2.1 c) l) cM w_ (hr.up0 hp_) (hn.up0 hp_) hlen hgd hkR1 hkl1 (by omega) (seen_ro (hoM.seen hp_)) hXr (by omega); rw [acr_idxs (p := inP (R[k]'hkR).2.1 c) (q := btP (R[k]'hkR).2.1 (R[k1]'hkR1).2.1 c) (fun a => rfl)] at h; exact h)) ?_)
   rintro _ _ ⟨A2, c2, m2, rfl, rfl, hO2⟩
   dsimp only [List.cons_append, List.nil_append]
   refine f_stepP rfl rfl rfl (o_assign rfl) ?_
   refine f_stepP rfl rfl rfl (o_assign rfl) ?_
   refine f_done ?_
   refine f_tn (kh9 _ _ ?_)
   clear kh9
   refine f_ret ?_
   have e : bwE (n : Int) l bs (rowsL R) q c = 0 := by unfold bwE; rw [if_neg (by rw [hcz]; simp), if_neg (by omega)]
   exact f_fin2 [m2] Tryz.results16 rfl rfl (by repeat (first | exact Sub.nil | refine Sub.pick ?_ | refine Sub.castO rfl ?_ | refine Sub.skip ?_)) ⟨_, A2, c2, m2, by rw [e], rfl, hO2, fun h => absurd e h, fun _ => by rw [show q.toNat - 1 = k by omega, show q.toNat - 2 = k1 by omega, hrk, hrk1]⟩

end Go.Proofs.YtkmkakpadgljeaaGreat

/- flyoverbook: what is lent, whether it is kept, what is spoiled. -/
namespace Go.Proofs.YtkmkakpadgljeaaGreat
open Go Go.RowKit Fly
set_option linter.unusedVariables false
set_option linter.unusedSimpArgs false


theorem rds_ro' {S : Nat → Prop} {w0 : World} {segs : List Seg} {A : Option Addr} {cs : List Value} (h : Ro S w0 A cs) : cs ≠ [] → ∃ b off, A = some ⟨b, off, none⟩ ∧ Rds S w0 segs b off cs := fun hne => by
  obtain ⟨b, off, e, hS, hc⟩ := h hne
  exact ⟨b, off, e, Seen.rds fun _ => ⟨hS, hc⟩⟩
theorem arcs_one' (l : List Arc) : (l.flatMap arcCs).all (·.oneCell') = true := by
  induction l with
  | nil => rfl
  | cons x l ih => rw [List.flatMap_cons, List.all_append, ih]; rfl
theorem ints_one' (l : List Int) : (ints l).all (·.oneCell') = true := by
  induction l with
  | nil => rfl
  | cons x l ih => rw [show ints (x :: l) = .int .i64 x :: ints l from rfl, List.all_cons, ih]; rfl
abbrev mark : Arc := ⟨-77, 0, 0⟩
def LendΦ (N : Int) (l : List Arc) (u : Value) (own : List Seg) : Prop :=
  ∃ b c rest, u = .agg #[.int .i64 N, .slice (some ⟨b, 0, none⟩) l.length c] ∧ own = [[(b, blk (l.flatMap arcCs ++ (arcCs mark ++ rest)) 48)]] ∧ l.length + 1 ≤ c ∧ c ≤ 9223372036854775807
def LendIΦ (l : List Int) (u : Value) (own : List Seg) : Prop :=
  ∃ b c rest, u = .slice (some ⟨b, 0, none⟩) l.length c ∧ own = [[(b, blk (ints l ++ ([.int .i64 (-77)] ++ rest)) 3)]] ∧ l.length + 1 ≤ c ∧ c ≤ 9223372036854775807
theorem ro_head {S : Nat → Prop} {w0 : World} {A : Option Addr} {xs ys : List Value} (h : Ro S w0 A (xs ++ ys)) : Ro S w0 A xs := fun hne => by
  obtain ⟨b, off, e, hS, hc⟩ := h (by simp [hne])
  exact ⟨b, off, e, hS, fun j v hj => hc j v (app_get hj)⟩
theorem own_full {E len cap : Nat} {A : Option Addr} {cs : List Value} {m : Seg} (h : Own E 1 (.slice A len cap) len cs m) : (if cap = 0 then A else A.map (·.add (0 * 1))) = A ∧ ∃ cs', Own E 1 (.slice A cap cap) cap cs' m := by
  obtain ⟨hl, h | ⟨b, c, sp, e, hm, h1, h2, h3⟩⟩ := h
  · obtain ⟨e, rfl, rfl⟩ := h
    cases e
    exact ⟨rfl, [], by simp, .inl ⟨rfl, rfl, rfl⟩⟩
  · cases e
    exact ⟨by split <;> simp [add_at], cs ++ sp, by simp [hl, h3]; omega, .inr ⟨b, cap, [], rfl, by simpa using hm, Nat.le_refl _, h2, by simp⟩⟩

set_option maxRecDepth 100000 in
set_option maxHeartbeats 4000000 in
theorem LendGraph_spec (N : Int) (A : Option Addr) (l : List Arc) (cap : Nat) (w : World) (hr : Ro (Fr w []) w A (l.flatMap arcCs)) (hb : l.length * 24 ≤ 140737488351232) :
    Meets Tryz.prog 6 [.agg #[.int .i64 N, .slice A l.length cap]] w [] (LendΦ N l) := by
 refine f_enter Tryz.func6 rfl Tryz.ntmps6 rfl Owns.nil ?_
 refine f_seq fun K1 kh1 => ?_
 refine f_region ?_
 refine f_step rfl rfl rfl (o_box rfl rfl fun b1 => ?_)
 refine f_step rfl rfl rfl (o_alloc Tryz.zeroValue24 rfl fun b2 => ?_)
 refine f_done ?_
 refine f_tn (kh1 _ _ ?_)
 clear kh1
 refine f_seq fun K2 kh2 => ?_
 refine f_region ?_
 refine f_step rfl rfl rfl (o_slice0 el22 fun b4 => ?_)
 refine f_stepP rfl rfl rfl (o_field fa24_1 rfl) ?_
 refine f_stepP rfl rfl rfl (o_load Tryz.isAgg22 rfl (rdA rfl)) ?_
 refine f_step rfl rfl rfl (o_appendQ el22 rfl rfl (Own.mk (b := b4) (cs := []) (len := 0) rfl (by omega)) (ys := l.flatMap arcCs) (rds_ro' hr) (flat_length arcCs arcCs_len l) (arcs_one' l) (by omega) (by omega) fun v7 m7 o7 => ?_)
 refine f_stepP rfl rfl rfl (o_assign rfl) ?_
 refine f_done ?_
 refine f_tn (kh2 _ _ ?_)
 clear kh2
 refine f_seq fun K3 kh3 => ?_
 refine f_region ?_
 refine f_stepP rfl rfl rfl (o_move rfl) ?_
 refine f_stepP rfl rfl rfl (o_build (cs := arcCs mark) st48 rfl rfl) ?_
 refine f_step rfl rfl rfl (o_slice1 el22 (by omega) rfl rfl rfl fun b10 => ?_)
 refine f_step rfl rfl rfl (o_append el22 rfl rfl o7 (ys := arcCs mark) ⟨(rdA rfl), (rdA rfl), (rdA rfl), trivial⟩ rfl rfl (by omega) (by omega) fun v11 m11 o11 => ?_)
 obtain ⟨A11, c11, rfl, hc11, hc12⟩ := o11.val
 obtain ⟨b, sp, rfl, rfl⟩ := o11.at_ (by omega)
 rw [Nat.zero_add] at hc11
 refine f_stepP rfl rfl rfl (o_assign rfl) ?_
 refine f_done ?_
 refine f_tn (kh3 _ _ ?_)
 clear kh3
 refine f_seq fun K4 kh4 => ?_
 refine f_regionT 8 rfl (by decide +kernel) ?_
 refine f_stillP rfl rfl rfl (o_field fa24_0 rfl) ?_
 refine f_stillP rfl rfl rfl (o_load Tryz.isAgg3 rfl (rdA rfl)) ?_
 refine f_stillP rfl rfl rfl (o_move rfl) ?_
 refine f_stillP rfl rfl rfl (o_field fa24_1 rfl) ?_
 refine f_stillP rfl rfl rfl (o_load Tryz.isAgg22 rfl (rdA rfl)) ?_
 refine f_stillP rfl rfl rfl (o_len sl22 rfl) ?_
 refine f_stillP rfl rfl rfl (o_slice sl22 rfl rfl rfl rfl (fun h => by cases h) 0 l.length _ (.inl ⟨rfl, rfl⟩) (.inr ⟨_, _, rfl, by omega⟩) (.inl ⟨rfl, rfl⟩) ⟨by omega, by omega, by omega⟩ (.slice (some ⟨b, 0, none⟩) l.length c11) (by rw [if_neg (by omega)]; simp [add_at])) ?_
 refine f_stillP rfl rfl rfl (o_build (cs := [.int .i64 N, .slice (some ⟨b, 0, none⟩) l.length c11]) st24 rfl rfl) ?_
 refine f_stillD (f_tail ?_)
 refine f_step0 rfl rfl (o_storeA Tryz.sizeOf24 rfl rfl rfl rfl (by first | exact Nat.le_of_ble_eq_true rfl | (simp; done) | (simp; omega)) [.int .i64 N, .slice (some ⟨b, 0, none⟩) l.length c11] rfl ?_)
 refine f_done ?_
 refine f_tn (kh4 _ _ ?_)
 clear kh4
 refine f_ret ?_
 exact f_finR1 [[(b, blk (l.flatMap arcCs ++ (arcCs mark ++ sp)) 48)]] Tryz.results6 (rvA (vs := [.int .i64 N, .slice (some ⟨b, 0, none⟩) l.length c11]) Tryz.isAgg24 Tryz.sizeOf24 rfl rfl ⟨(rdA rfl), (rdA rfl), trivial⟩) (by rw [List.nil_append, List.append_assoc]; repeat (first | exact Sub.nil | refine Sub.pick ?_)) ⟨b, c11, sp, rfl, rfl, hc11, hc12⟩

set_option maxRecDepth 100000 in
set_option maxHeartbeats 4000000 in
theorem KeptGraph_spec (N : Int) (b c : Nat) (A : Option Addr) (l : List Arc) (cap : Nat) (rest : List Value) (w : World) (hx : Ro (Fr w []) w (some ⟨b, 0, none⟩) (l.flatMap arcCs ++ (arcCs mark ++ rest))) (hr : Ro (Fr w []) w A (l.flatMap arcCs)) (hc : l.length + 1 ≤ c) (hm : c ≤ 9223372036854775807) :
    Meets Tryz.prog 18 [.agg #[.int .i64 N, .slice (some ⟨b, 0, none⟩) l.length c], .agg #[.int .i64 N, .slice A l.length cap]] w [] (fun u m => u = .bool true ∧ m = []) := by
 obtain ⟨b', o', e', hSx, hcx⟩ := hx (by simp [arcCs])
 obtain ⟨rfl, rfl⟩ : b = b' ∧ 0 = o' := by cases e'; exact ⟨rfl, rfl⟩
 refine f_enter Tryz.func18 rfl Tryz.ntmps18 rfl Owns.nil ?_
 refine f_seq fun K1 kh1 => ?_
 refine f_region ?_
 refine f_step rfl rfl rfl (o_box rfl rfl fun b2 => ?_)
 refine f_step rfl rfl rfl (o_box rfl rfl fun b3 => ?_)
 refine f_stepP rfl rfl rfl (o_assign rfl) ?_
 refine f_done ?_
 refine f_tn (kh1 _ _ ?_)
 clear kh1
 refine f_seq fun K2 kh2 => ?_
 refine f_regionH [[(b2, blk [.int .i64 N, .slice (some ⟨b, 0, none⟩) l.length c] 24)], [(b3, blk [.int .i64 N, .slice A l.length cap] 24)]] rfl ?_
 refine f_take 0 rfl (by decide +kernel) rfl rfl rfl (by repeat (first | exact Sub.nil | refine Sub.pick ?_ | refine Sub.castO rfl ?_ | refine Sub.skip ?_)) (o_loadA (vs := [_, _]) Tryz.isAgg24 Tryz.sizeOf24 rfl rfl ⟨(rdA rfl), (rdA rfl), trivial⟩) ?_
 refine f_take 1 rfl (by decide +kernel) rfl rfl rfl (by repeat (first | exact Sub.nil | refine Sub.pick ?_ | refine Sub.castO rfl ?_ | refine Sub.skip ?_)) (o_loadA (vs := [_, _]) Tryz.isAgg24 Tryz.sizeOf24 rfl rfl ⟨(rdA rfl), (rdA rfl), trivial⟩) ?_
 refine f_only 2 rfl (by decide +kernel) rfl rfl rfl (o_call Tryz.call35 rfl (fun w_ hp_ => SameGraph_spec N N (some ⟨b, 0, none⟩) A l l c cap w_ ((ro_head hx).up0 hp_) (hr.up0 hp_) (by omega)) ?_)
 rintro _ _ ⟨rfl, rfl⟩
 rw [decide_eq_true (show N = N ∧ l = l from ⟨rfl, rfl⟩)]
 dsimp only [List.cons_append, List.nil_append]
 refine ⟨(by repeat (first | exact Sub.nil | refine Sub.pick ?_ | refine Sub.castO rfl ?_ | refine Sub.skip ?_)), ?_⟩
 refine f_take 3 rfl (by decide +kernel) rfl rfl rfl (by repeat (first | exact Sub.nil | refine Sub.pick ?_ | refine Sub.castO rfl ?_ | refine Sub.skip ?_)) (o_move rfl) ?_
 refine f_takeY 4 rfl (by decide +kernel) rfl rfl rfl rfl rfl (by repeat (first | exact Sub.nil | refine Sub.pick ?_ | refine Sub.castO rfl ?_ | refine Sub.skip ?_)) (o_field fa24_1 rfl) ?_
 refine f_takeY 5 rfl (by decide +kernel) rfl rfl rfl rfl rfl (by repeat (first | exact Sub.nil | refine Sub.pick ?_ | refine Sub.castO rfl ?_ | refine Sub.skip ?_)) (o_load Tryz.isAgg22 rfl (rdA rfl)) ?_
 refine f_takeY 6 rfl (by decide +kernel) rfl rfl rfl rfl rfl (by repeat (first | exact Sub.nil | refine Sub.pick ?_ | refine Sub.castO rfl ?_ | refine Sub.skip ?_)) (o_field fa24_1 rfl) ?_
 refine f_takeY 7 rfl (by decide +kernel) rfl rfl rfl rfl rfl (by repeat (first | exact Sub.nil | refine Sub.pick ?_ | refine Sub.castO rfl ?_ | refine Sub.skip ?_)) (o_load Tryz.isAgg22 rfl (rdA rfl)) ?_
 refine f_takeY 8 rfl (by decide +kernel) rfl rfl rfl rfl rfl (by repeat (first | exact Sub.nil | refine Sub.pick ?_ | refine Sub.castO rfl ?_ | refine Sub.skip ?_)) (o_len sl22 rfl) ?_
 refine f_takeY 9 rfl (by decide +kernel) rfl rfl rfl rfl rfl (by repeat (first | exact Sub.nil | refine Sub.pick ?_ | refine Sub.castO rfl ?_ | refine Sub.skip ?_)) (o_add rfl rfl _ (wrap_i64 (by omega))) ?_
 refine f_takeY 10 rfl (by decide +kernel) rfl rfl rfl rfl rfl (by repeat (first | exact Sub.nil | refine Sub.pick ?_ | refine Sub.castO rfl ?_ | refine Sub.skip ?_)) (o_slice sl22 rfl rfl rfl rfl (fun h => by cases h) 0 (l.length + 1) _ (.inl ⟨rfl, rfl⟩) (.inr ⟨_, _, rfl, by omega⟩) (.inl ⟨rfl, rfl⟩) ⟨by omega, by omega, by omega⟩ (.slice (some ⟨b, 0, none⟩) (l.length + 1) c) (by rw [if_neg (by omega)]; simp [add_at])) ?_
 refine f_takeY 11 rfl (by decide +kernel) rfl rfl rfl rfl rfl (by repeat (first | exact Sub.nil | refine Sub.pick ?_ | refine Sub.castO rfl ?_ | refine Sub.skip ?_)) (o_field fa24_1 rfl) ?_
 refine f_takeY 12 rfl (by decide +kernel) rfl rfl rfl rfl rfl (by repeat (first | exact Sub.nil | refine Sub.pick ?_ | refine Sub.castO rfl ?_ | refine Sub.skip ?_)) (o_load Tryz.isAgg22 rfl (rdA rfl)) ?_
 refine f_takeY 13 rfl (by decide +kernel) rfl rfl rfl rfl rfl (by repeat (first | exact Sub.nil | refine Sub.pick ?_ | refine Sub.castO rfl ?_ | refine Sub.skip ?_)) (o_len sl22 rfl) ?_
 refine f_takeY 14 rfl (by decide +kernel) rfl rfl rfl rfl rfl (by repeat (first | exact Sub.nil | refine Sub.pick ?_ | refine Sub.castO rfl ?_ | refine Sub.skip ?_)) (o_idx sl22 rfl rfl (l.length * 3) ⟨by omega, by omega, by first | omega | (simp; done) | (simp; omega)⟩) ?_
 refine f_takeY 15 rfl (by decide +kernel) rfl rfl rfl rfl rfl (by repeat (first | exact Sub.nil | refine Sub.pick ?_ | refine Sub.castO rfl ?_ | refine Sub.skip ?_)) (o_field fa48_0 rfl) ?_
 refine f_takeY 16 rfl (by decide +kernel) rfl rfl rfl rfl rfl (by repeat (first | exact Sub.nil | refine Sub.pick ?_ | refine Sub.castO rfl ?_ | refine Sub.skip ?_)) (o_load Tryz.isAgg3 rfl (rdS hSx (v := .int .i64 (-77)) (by have := hcx (l.length * 3) (.int .i64 (-77)) (by rw [List.getElem?_append_right (by rw [flat_length arcCs arcCs_len]; exact Nat.le_refl _), flat_length arcCs arcCs_len, Nat.sub_self]; rfl); simpa using this))) ?_
 refine f_takeY 17 rfl (by decide +kernel) rfl rfl rfl rfl rfl (by repeat (first | exact Sub.nil | refine Sub.pick ?_ | refine Sub.castO rfl ?_ | refine Sub.skip ?_)) (o_eql rfl rfl) ?_
 refine f_take 18 rfl (by decide +kernel) rfl rfl rfl (by repeat (first | exact Sub.nil | refine Sub.pick ?_ | refine Sub.castO rfl ?_ | refine Sub.skip ?_)) (o_pickT rfl rfl) ?_
 refine f_only 19 rfl (by decide +kernel) rfl rfl rfl ((o_assign rfl).does ⟨(by repeat (first | exact Sub.nil | refine Sub.pick ?_ | refine Sub.castO rfl ?_ | refine Sub.skip ?_)), ?_⟩)
 refine f_over (by decide +kernel) ?_
 refine f_tn (kh2 _ _ ?_)
 clear kh2
 refine f_ret ?_
 exact f_fin1 [] Tryz.results18 rfl Sub.nil ⟨rfl, rfl⟩

set_option maxRecDepth 100000 in
set_option maxHeartbeats 4000000 in
theorem SpoilInts_spec (A : Option Addr) (len cap : Nat) (cs : List Value) (m : Seg) (x : Int) (w : World) (ho : Own 3 1 (.slice A len cap) len cs m) (hw : Owns w [m]) :
    Meets Tryz.prog 17 [.slice A len cap, .int .i64 x] w [m] (fun u own' => u = .tuple #[] ∧ own' = []) := by
 obtain ⟨_, _, e_, hlc, hc⟩ := ho.val
 cases e_
 obtain ⟨hA, cs', ho'⟩ := own_full ho
 clear ho
 refine f_enter Tryz.func17 rfl Tryz.ntmps17 rfl hw ?_
 refine f_seq fun K1 kh1 => ?_
 refine f_region ?_
 refine f_stepP rfl rfl rfl (o_move rfl) ?_
 refine f_stepP rfl rfl rfl (o_move rfl) ?_
 refine f_stepP rfl rfl rfl (o_cap sl25 rfl) ?_
 refine f_stepP rfl rfl rfl (o_slice sl25 rfl rfl rfl rfl (fun h => by cases h) 0 cap _ (.inl ⟨rfl, rfl⟩) (.inr ⟨_, _, rfl, by omega⟩) (.inl ⟨rfl, rfl⟩) ⟨by omega, by omega, by omega⟩ (.slice A cap cap) (by simp only [Nat.sub_zero]; rw [hA])) ?_
 refine f_stepP rfl rfl rfl (o_assign rfl) ?_
 refine f_done ?_
 refine f_tn (kh1 _ _ ?_)
 clear kh1
 refine f_seq fun K2 kh2 => ?_
 refine f_region ?_
 refine f_stepP rfl rfl rfl (o_assign rfl) ?_
 refine f_done ?_
 refine f_tn (kh2 _ _ ?_)
 clear kh2
 refine f_block ?_
 refine f_loop (α := Nat × List Value × Seg) [0, 1] (fun ⟨k, ds, x_⟩ => [(4, .int .i64 (k : Int))]) (fun ⟨k, ds, x_⟩ => [x_]) (fun ⟨k, ds, x_⟩ => k ≤ cap ∧ Own 3 1 (.slice A cap cap) cap ds x_) (fun ⟨k, ds, x_⟩ => cap - k) (0, cs', m) ?_ ?_ ?_ ?_
 · exact (by repeat (first | exact trivial | refine ⟨rfl, ?_⟩))
 · repeat (first | exact Sub.nil | refine Sub.pick ?_ | refine Sub.castO rfl ?_ | refine Sub.skip ?_)
 · exact ⟨Nat.zero_le _, ho'⟩
 ·
  rintro ⟨k, ds, x_⟩ ⟨hk, hx⟩
  refine f_seq fun K3 kh3 => ?_
  refine f_seq fun K4 kh4 => ?_
  refine f_region ?_
  refine f_stepP rfl rfl rfl (o_move rfl) ?_
  refine f_stepP rfl rfl rfl (o_move rfl) ?_
  refine f_stepP rfl rfl rfl (o_len sl25 rfl) ?_
  refine f_stepP rfl rfl rfl (o_lss rfl rfl) ?_
  refine f_done ?_
  refine f_tn (kh4 _ _ ?_)
  clear kh4
  refine f_cond rfl (fun c12 => ?_) (fun c12 => ?_)
  ·
   refine f_skip ?_
   refine f_tn (kh3 _ _ ?_)
   clear kh3
   refine f_seq fun K5 kh5 => ?_
   refine f_block ?_
   have hk' : k < cap := by omega
   obtain ⟨b, rfl, rfl⟩ : ∃ b, A = some ⟨b, 0, none⟩ ∧ x_ = [(b, blk ds 3)] := by
     obtain ⟨_, h | ⟨b, c, sp, e, hm, h1, h2, h3⟩⟩ := hx
     · omega
     · cases e
       have : sp = [] := List.length_eq_zero_iff.1 (by simpa using h3)
       subst this
       exact ⟨b, rfl, by simpa using hm⟩
   have hdl : ds.length = cap := by simpa using hx.1
   refine f_region ?_
   refine f_stepP rfl rfl rfl (o_move rfl) ?_
   refine f_stepP rfl rfl rfl (o_move rfl) ?_
   refine f_stepP rfl rfl rfl (o_move rfl) ?_
   refine f_stepP rfl rfl rfl (o_idx sl25 rfl rfl (k) ⟨by omega, by omega, by first | omega | (simp; done) | (simp; omega)⟩) ?_
   refine f_step0 rfl rfl (o_store Tryz.sizeOf3 rfl rfl rfl rfl (by omega) _ rfl ?_)
   refine f_done ?_
   refine f_bn ?_
   refine f_tn (kh5 _ _ ?_)
   clear kh5
   refine f_region ?_
   refine f_stepP rfl rfl rfl (o_move rfl) ?_
   refine f_stepP rfl rfl rfl (o_add rfl rfl _ (wrap_i64 (by omega))) ?_
   refine f_stepP rfl rfl rfl (o_assign rfl) ?_
   refine f_done ?_
   refine f_tn (f_again (k + 1, ds.set k (.int .i64 x), [(b, blk (ds.set k (.int .i64 x)) 3)]) (by first | omega | (dsimp only; omega) | (simp; omega)) ⟨by omega, by simpa using hx.1, .inr ⟨b, cap, [], rfl, by simp, Nat.le_refl _, hc, by simp⟩⟩ ?_ ?_ ?_)
   · exact (by repeat (first | exact trivial | refine ⟨rfl, ?_⟩))
   · exact (by repeat (first | exact trivial | refine ⟨rfl, ?_⟩))
   · repeat (first | exact Sub.nil | refine Sub.pick ?_ | refine Sub.castO rfl ?_ | refine Sub.skip ?_)
  ·
   refine f_exit ?_
   refine f_te ?_
   clear kh3
   refine f_te ?_
   refine f_be ?_
   exact f_fin0n [] Tryz.results17 Sub.empty ⟨rfl, rfl⟩

end Go.Proofs.YtkmkakpadgljeaaGreat
