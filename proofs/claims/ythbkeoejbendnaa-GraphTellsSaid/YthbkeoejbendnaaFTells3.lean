/- flyoverlaw03.GraphTells answers true. -/
import Derived.Test.YthbkeoejbendnaaFWorks3
import Derived.Test.YthbkeoejbendnaaFNbr3
import Derived.Test.YthbkeoejbendnaaFRef3
import Derived.Test.YthbkeoejbendnaaFLend
namespace Go.Proofs.Ythbkeoejbendnaa
open Go Go.RowKit Fly
set_option linter.unusedVariables false
set_option linter.unusedSimpArgs false


theorem meets_monoS {P : Program} {f : FuncId} {args : List Value} {w : World} {own : List Seg} {Φ Ψ : Value → List Seg → Prop}
    (h : Meets P f args w own Φ) (hi : ∀ v m, Φ v m → ∃ m', m'.flatten = m.flatten ∧ Ψ v m') : Meets P f args w own Ψ :=
  Calls.mono h fun _ _ ⟨v, m, he, hp, hf⟩ => by
    obtain ⟨m', hm, hf'⟩ := hi v m hf
    exact ⟨v, m', he, by rw [hm]; exact hp, hf'⟩
/-- The answer of Parts, of either. -/
def PrtΦ (N : Int) (l : List Arc) (u : Value) (own : List Seg) : Prop :=
  ∃ A p c m, u = .tuple #[.slice A p.length c, .int .i64 (gcheck N l).2] ∧ own = [m] ∧ Own 3 1 (.slice A p.length c) p.length (ints p) m ∧ ((gcheck N l).2 = 0 → ∃ q, p = q.map (fun x : Nat => (x : Int)) ∧ IsParts N.toNat (ends2 l) q) ∧ ((gcheck N l).2 ≠ 0 → p = []) ∧ p.length ≤ 1024
theorem prt_of {N : Int} {l : List Arc} {v : Value} {m : List Seg} (h : if (gcheck N l).2 = 0 then ∃ p b, v = .tuple #[.slice (some ⟨b, 0, none⟩) N.toNat N.toNat, .int .i64 0] ∧ m = [[(b, blk (nats p) 3)]] ∧ IsParts N.toNat (ends2 l) p
        else v = .tuple #[.slice none 0 0, .int .i64 (gcheck N l).2] ∧ m = []) : ∃ m', m'.flatten = m.flatten ∧ PrtΦ N l v m' := by
  split at h
  · rename_i hz
    obtain ⟨p, b, rfl, rfl, hp⟩ := h
    have hl := hp.len
    have hN := gcheck_zero hz
    refine ⟨_, rfl, some ⟨b, 0, none⟩, p.map (fun x : Nat => (x : Int)), N.toNat, _, by rw [List.length_map, hl, hz], rfl, ?_, fun _ => ⟨p, rfl, hp⟩, fun h => absurd hz h, by rw [List.length_map, hl]; omega⟩
    rw [← nats_ints, List.length_map, hl]
    exact Own.mk (by rw [nats_length, hl]; omega) (by omega)
  · rename_i hz
    obtain ⟨rfl, rfl⟩ := h
    exact ⟨[[]], rfl, none, [], 0, [], rfl, rfl, Own.nil _ _, fun h => absurd h hz, fun _ => rfl, by simp⟩
theorem prt_same {N : Int} {l : List Arc} {p q : List Int} (h0 : (gcheck N l).2 = 0 → ∃ r, p = r.map (fun x : Nat => (x : Int)) ∧ IsParts N.toNat (ends2 l) r) (h1 : (gcheck N l).2 ≠ 0 → p = []) (g0 : (gcheck N l).2 = 0 → ∃ r, q = r.map (fun x : Nat => (x : Int)) ∧ IsParts N.toNat (ends2 l) r) (g1 : (gcheck N l).2 ≠ 0 → q = []) : p = q := by
  by_cases hz : (gcheck N l).2 = 0
  · obtain ⟨r, rfl, hr⟩ := h0 hz
    obtain ⟨s, rfl, hs⟩ := g0 hz
    rw [hr.unique hs fun u v _ _ => Iff.rfl]
  · rw [h1 hz, g1 hz]
theorem nb_same {N : Int} {l : List Arc} {v : Int} {W W2 : List Int} (hW : W = if glooked N l v = 0 then nbrs v l else []) (h0 : glooked N l v = 0 → ∃ sd : List Bool, W2 = trues sd ∧ sd.length = N.toNat ∧ ∀ u, u < N.toNat → sd.getD u false = (decide (u ≠ v.toNat) && l.any (nbB v.toNat u))) (h1 : glooked N l v ≠ 0 → W2 = []) : W = W2 := by
  by_cases hz : glooked N l v = 0
  · rw [if_pos hz] at hW
    obtain ⟨sd, rfl, hl, hs⟩ := h0 hz
    obtain ⟨hg0, hv0, hv1⟩ := glooked_zero hz
    have hN := gcheck_zero hg0
    obtain ⟨n, rfl⟩ : ∃ n : Nat, N = n := ⟨N.toNat, by omega⟩
    obtain ⟨a, rfl⟩ : ∃ a : Nat, v = a := ⟨v.toNat, by omega⟩
    rw [hW]
    exact nbrs_trues (by omega) hN.2.2.2 hl hs
  · rw [if_neg hz] at hW; rw [hW, h1 hz]
theorem gends_len {N : Int} {l : List Arc} {v : Int} {p : Arc → Bool} : (gends N l v p).length ≤ l.length := by
  unfold gends; split
  · rw [idxs_length]; exact List.countP_le_length
  · simp
theorem own_full6 {E len cap : Nat} {A : Option Addr} {cs : List Value} {m : Seg} (h : Own E 1 (.slice A len cap) len cs m) : ∃ cs', Own E 1 (.slice A cap cap) cap cs' m := (own_full h).2
theorem sl_same (A : Option Addr) (cap : Nat) : (if cap = 0 then A else A.map (·.add (0 * 1))) = A := by
  split
  · rfl
  · cases A with
    | none => rfl
    | some x => obtain ⟨p, q, r⟩ := x; cases r <;> simp [Addr.add]

set_option maxRecDepth 100000 in
set_option maxHeartbeats 4000000 in
theorem SpoilIntsC_spec (A : Option Addr) (len cap c : Nat) (cs : List Value) (m : Seg) (x : Int) (w : World) (ho : Own 3 1 (.slice A len c) len cs m) (hlc : len ≤ cap) (hcc : cap ≤ c) (hw : Owns w [m]) :
    Meets Try.prog 27 [.slice A len cap, .int .i64 x] w [m] (fun u own' => u = .tuple #[] ∧ own' = []) := by
  obtain ⟨_, _, e_, _, hc⟩ := ho.val
  cases e_
  obtain ⟨cs', ho'⟩ := own_full6 ho
  clear ho
  have hA := sl_same A cap
  refine f_enter Try.func27 rfl Try.ntmps27 rfl hw ?_
  refine f_seq fun K1 kh1 => ?_
  refine f_region ?_
  refine f_stepP rfl rfl rfl (o_move rfl) ?_
  refine f_stepP rfl rfl rfl (o_move rfl) ?_
  refine f_stepP rfl rfl rfl (o_cap sl29 rfl) ?_
  refine f_stepP rfl rfl rfl (o_slice sl29 rfl rfl rfl rfl (fun h => by cases h) 0 cap _ (.inl ⟨rfl, rfl⟩) (.inr ⟨_, _, rfl, by omega⟩) (.inl ⟨rfl, rfl⟩) ⟨by omega, by omega, by omega⟩ (.slice A cap cap) (by simp only [Nat.sub_zero]; rw [hA])) ?_
  refine f_stepP rfl rfl rfl (o_assign rfl) ?_
  refine f_done ?_
  refine f_tn (kh1 _ _ ?_)
  clear kh1
  refine f_seq fun K2 kh2 => ?_
  refine f_region ?_
  refine f_stepP rfl rfl rfl (o_assign rfl) ?_
  refine f_done ?_
  refine f_tn (kh2 _ _ ?_)
  clear kh2
  refine f_block ?_
  refine f_loop (α := Nat × List Value × Seg) [0, 1] (fun ⟨k, ds, x_⟩ => [(4, .int .i64 (k : Int))]) (fun ⟨k, ds, x_⟩ => [x_]) (fun ⟨k, ds, x_⟩ => k ≤ cap ∧ Own 3 1 (.slice A c c) c ds x_) (fun ⟨k, ds, x_⟩ => cap - k) (0, cs', m) ?_ ?_ ?_ ?_
  · exact (by repeat (first | exact trivial | refine ⟨rfl, ?_⟩))
  · repeat (first | exact Sub.nil | refine Sub.pick ?_ | refine Sub.castO rfl ?_ | refine Sub.skip ?_)
  · exact ⟨Nat.zero_le _, ho'⟩
  · rintro ⟨k, ds, x_⟩ ⟨hk, hx⟩
    refine f_seq fun K3 kh3 => ?_
    refine f_seq fun K4 kh4 => ?_
    refine f_region ?_
    refine f_stepP rfl rfl rfl (o_move rfl) ?_
    refine f_stepP rfl rfl rfl (o_move rfl) ?_
    refine f_stepP rfl rfl rfl (o_len sl29 rfl) ?_
    refine f_stepP rfl rfl rfl (o_lss rfl rfl) ?_
    refine f_done ?_
    refine f_tn (kh4 _ _ ?_)
    clear kh4
    refine f_cond rfl (fun c12 => ?_) (fun c12 => ?_)
    · skip
      refine f_skip ?_
      refine f_tn (kh3 _ _ ?_)
      clear kh3
      refine f_seq fun K5 kh5 => ?_
      refine f_block ?_
      have hk' : k < cap := by omega
      obtain ⟨b, rfl, rfl⟩ : ∃ b, A = some ⟨b, 0, none⟩ ∧ x_ = [(b, blk ds 3)] := by
        obtain ⟨_, h | ⟨b, c', sp, e, hm, h1, h2, h3⟩⟩ := hx
        · omega
        · cases e
          have : sp = [] := List.length_eq_zero_iff.1 (by simpa using h3)
          subst this
          exact ⟨b, rfl, by simpa using hm⟩
      have hdl : ds.length = c := by simpa using hx.1
      refine f_region ?_
      refine f_stepP rfl rfl rfl (o_move rfl) ?_
      refine f_stepP rfl rfl rfl (o_move rfl) ?_
      refine f_stepP rfl rfl rfl (o_move rfl) ?_
      refine f_stepP rfl rfl rfl (o_idx sl29 rfl rfl (k) ⟨by omega, by omega, by first | omega | (simp; done) | (simp; omega)⟩) ?_
      refine f_step0 rfl rfl (o_store Try.sizeOf3 rfl rfl rfl rfl (by omega) _ rfl ?_)
      refine f_done ?_
      refine f_bn ?_
      refine f_tn (kh5 _ _ ?_)
      clear kh5
      refine f_region ?_
      refine f_stepP rfl rfl rfl (o_move rfl) ?_
      refine f_stepP rfl rfl rfl (o_add rfl rfl _ (wrap_i64 (by omega))) ?_
      refine f_stepP rfl rfl rfl (o_assign rfl) ?_
      refine f_done ?_
      refine f_tn (f_again (k + 1, ds.set k (.int .i64 x), [(b, blk (ds.set k (.int .i64 x)) 3)]) (by first | omega | (dsimp only; omega) | (simp; omega)) ⟨by omega, by simpa using hx.1, .inr ⟨b, c, [], rfl, by simp, Nat.le_refl _, hc, by simp⟩⟩ ?_ ?_ ?_)
      · exact (by repeat (first | exact trivial | refine ⟨rfl, ?_⟩))
      · exact (by repeat (first | exact trivial | refine ⟨rfl, ?_⟩))
      · repeat (first | exact Sub.nil | refine Sub.pick ?_ | refine Sub.castO rfl ?_ | refine Sub.skip ?_)
    · skip
      refine f_exit ?_
      refine f_te ?_
      clear kh3
      refine f_te ?_
      refine f_be ?_
      exact f_fin0n [] Try.results27 Sub.empty ⟨rfl, rfl⟩

set_option maxRecDepth 100000 in
set_option maxHeartbeats 4000000 in
theorem GraphTells_spec (N : Int) (A : Option Addr) (l : List Arc) (cap : Nat) (v : Int) (w : World) (hr : Ro (Fr w []) w A (l.flatMap arcCs)) (hl : l.length ≤ 9223372036854775807) (hN : I64 N) (hok : ∀ x ∈ l, ArcOk x) (hz0 : l.length * 24 ≤ 140737488351232) :
    Meets Try.prog 8 [.agg #[.int .i64 N, .slice A l.length cap], .int .i64 v] w [] (fun u m => u = .bool true ∧ m = []) := by
  refine f_enter Try.func8 rfl Try.ntmps8 rfl Owns.nil ?_
  refine f_seq fun K1 kh1 => ?_
  refine f_region ?_
  refine f_step rfl rfl rfl (o_box rfl rfl fun b2 => ?_)
  refine f_stepP rfl rfl rfl (o_assign rfl) ?_
  refine f_done ?_
  refine f_tn (kh1 _ _ ?_)
  clear kh1
  refine f_seq fun K2 kh2 => ?_
  refine f_region ?_
  refine f_stepP rfl rfl rfl (o_loadA (vs := [_, _]) Try.isAgg24 Try.sizeOf24 rfl rfl ⟨(rdA rfl), (rdA rfl), trivial⟩) ?_
  refine f_step rfl rfl rfl (o_call Try.call20 rfl (fun w_ hp_ => LendGraph_spec N A l cap w_ (hr.up0 hp_) hz0) ?_)
  rintro _ _ ⟨bg, cg, rg, rfl, rfl, hg1, hg2⟩
  dsimp only [List.cons_append, List.nil_append]
  refine f_step rfl rfl rfl (o_alloc Try.zeroValue24 rfl fun b5 => ?_)
  refine f_step0 rfl rfl (o_storeA Try.sizeOf24 rfl rfl rfl rfl (by first | exact Nat.le_of_ble_eq_true rfl | (simp; done) | (simp; omega)) [.int .i64 N, .slice (some ⟨bg, 0, none⟩) l.length cg] rfl ?_)
  refine f_done ?_
  refine f_tn (kh2 _ _ ?_)
  clear kh2
  refine f_seq fun K3 kh3 => ?_
  refine f_region ?_
  refine f_stepP rfl rfl rfl (o_loadA (vs := [_, _]) Try.isAgg24 Try.sizeOf24 rfl rfl ⟨(rdA rfl), (rdA rfl), trivial⟩) ?_
  refine f_step rfl rfl rfl (o_call Try.call10 rfl (fun w_ hp_ => Check_spec N (some ⟨bg, 0, none⟩) l cg w_ (roOwn (b := bg) hp_ (fun j v hj => app_get hj)) hl hN hok) ?_)
  rintro _ _ ⟨rfl, rfl⟩
  dsimp only [List.cons_append, List.nil_append]
  refine f_stepP rfl rfl rfl (o_move rfl) ?_
  refine f_stepP rfl rfl rfl (o_extract rfl rfl) ?_
  refine f_stepP rfl rfl rfl (o_extract rfl rfl) ?_
  refine f_stepP rfl rfl rfl (o_assign rfl) ?_
  refine f_stepP rfl rfl rfl (o_assign rfl) ?_
  refine f_done ?_
  refine f_tn (kh3 _ _ ?_)
  clear kh3
  refine f_seq fun K4 kh4 => ?_
  refine f_region ?_
  refine f_stepP rfl rfl rfl (o_loadA (vs := [_, _]) Try.isAgg24 Try.sizeOf24 rfl rfl ⟨(rdA rfl), (rdA rfl), trivial⟩) ?_
  refine f_step rfl rfl rfl (o_call Try.call21 rfl (fun w_ hp_ => RCheck3_spec N A l cap w_ (hr.up0 hp_) hl hN hok) ?_)
  rintro _ _ ⟨rfl, rfl⟩
  dsimp only [List.cons_append, List.nil_append]
  refine f_stepP rfl rfl rfl (o_move rfl) ?_
  refine f_stepP rfl rfl rfl (o_extract rfl rfl) ?_
  refine f_stepP rfl rfl rfl (o_extract rfl rfl) ?_
  refine f_stepP rfl rfl rfl (o_assign rfl) ?_
  refine f_stepP rfl rfl rfl (o_assign rfl) ?_
  refine f_done ?_
  refine f_tn (kh4 _ _ ?_)
  clear kh4
  refine f_seq fun K5 kh5 => ?_
  refine f_seq fun K6 kh6 => ?_
  refine f_region ?_
  refine f_stepP rfl rfl rfl (o_move rfl) ?_
  refine f_stepPY rfl rfl rfl rfl rfl (o_move rfl) ?_
  refine f_stepPY rfl rfl rfl rfl rfl (o_move rfl) ?_
  refine f_stepPY rfl rfl rfl rfl rfl (o_neq rfl rfl) ?_
  refine f_stepP rfl rfl rfl (o_pickF rfl rfl) ?_
  refine f_stepP rfl rfl rfl (o_move rfl) ?_
  refine f_falseL 37 rfl (by simp) ?_
  refine f_stepPY rfl rfl rfl rfl rfl (o_move rfl) ?_
  refine f_stepPY rfl rfl rfl rfl rfl (o_move rfl) ?_
  refine f_stepPY rfl rfl rfl rfl rfl (o_neq rfl rfl) ?_
  refine f_stepP rfl rfl rfl (o_pickF rfl rfl) ?_
  refine f_done ?_
  refine f_tn (kh6 _ _ ?_)
  clear kh6
  refine f_condN rfl (by simp) ?_
  refine f_skip ?_
  refine f_tn (kh5 _ _ ?_)
  clear kh5
  refine f_seq fun K7 kh7 => ?_
  refine f_region ?_
  refine f_stepP rfl rfl rfl (o_loadA (vs := [_, _]) Try.isAgg24 Try.sizeOf24 rfl rfl ⟨(rdA rfl), (rdA rfl), trivial⟩) ?_
  refine f_stepP rfl rfl rfl (o_move rfl) ?_
  refine f_step rfl rfl rfl (o_call Try.call11 rfl (fun w_ hp_ => Out_spec N (some ⟨bg, 0, none⟩) l cg v w_ (roOwn (b := bg) hp_ (fun j v hj => app_get hj)) hl hN hok) ?_)
  rintro _ _ ⟨s1, m1, rfl, rfl, ho1⟩
  obtain ⟨A1, c1_, rfl, _⟩ := ho1.val
  dsimp only [List.cons_append, List.nil_append]
  refine f_stepP rfl rfl rfl (o_move rfl) ?_
  refine f_stepP rfl rfl rfl (o_extract rfl rfl) ?_
  refine f_stepP rfl rfl rfl (o_extract rfl rfl) ?_
  refine f_stepP rfl rfl rfl (o_assign rfl) ?_
  refine f_stepP rfl rfl rfl (o_assign rfl) ?_
  refine f_done ?_
  refine f_tn (kh7 _ _ ?_)
  clear kh7
  refine f_seq fun K8 kh8 => ?_
  refine f_region ?_
  refine f_stepP rfl rfl rfl (o_loadA (vs := [_, _]) Try.isAgg24 Try.sizeOf24 rfl rfl ⟨(rdA rfl), (rdA rfl), trivial⟩) ?_
  refine f_stepP rfl rfl rfl (o_move rfl) ?_
  refine f_step rfl rfl rfl (o_call Try.call22 rfl (fun w_ hp_ => ROut_spec N A l cap v w_ (hr.up0 hp_) hl hN hok) ?_)
  rintro _ _ ⟨s2, m2, rfl, rfl, ho2⟩
  obtain ⟨A2, c2_, rfl, _⟩ := ho2.val
  dsimp only [List.cons_append, List.nil_append]
  refine f_stepP rfl rfl rfl (o_move rfl) ?_
  refine f_stepP rfl rfl rfl (o_extract rfl rfl) ?_
  refine f_stepP rfl rfl rfl (o_extract rfl rfl) ?_
  refine f_stepP rfl rfl rfl (o_assign rfl) ?_
  refine f_stepP rfl rfl rfl (o_assign rfl) ?_
  refine f_done ?_
  refine f_tn (kh8 _ _ ?_)
  clear kh8
  refine f_seq fun K9 kh9 => ?_
  refine f_seq fun K10 kh10 => ?_
  refine f_region ?_
  refine f_stepP rfl rfl rfl (o_move rfl) ?_
  refine f_stepP rfl rfl rfl (o_move rfl) ?_
  refine f_step rfl rfl rfl (o_call Try.call16 rfl (fun w_ hp_ => SameInts_spec A1 A2 (gends N l v fun x => decide (x.src = v)) (gends N l v fun x => decide (x.src = v)) c1_ c2_ w_ (seen_ro (ho1.seen hp_)) (seen_ro (ho2.seen hp_)) (by have := gends_len (N := N) (l := l) (v := v) (p := fun x => decide (x.src = v)); omega)) ?_)
  rintro _ _ ⟨rfl, rfl⟩
  rw [decide_eq_true rfl]
  dsimp only [List.cons_append, List.nil_append]
  refine f_stepP rfl rfl rfl (o_not rfl) ?_
  refine f_stepP rfl rfl rfl (o_move rfl) ?_
  refine f_stepPY rfl rfl rfl rfl rfl (o_move rfl) ?_
  refine f_stepPY rfl rfl rfl rfl rfl (o_move rfl) ?_
  refine f_stepPY rfl rfl rfl rfl rfl (o_neq rfl rfl) ?_
  refine f_stepP rfl rfl rfl (o_pickF rfl rfl) ?_
  refine f_done ?_
  refine f_tn (kh10 _ _ ?_)
  clear kh10
  refine f_condN rfl (by simp) ?_
  refine f_skip ?_
  refine f_tn (kh9 _ _ ?_)
  clear kh9
  refine f_seq fun K11 kh11 => ?_
  refine f_region ?_
  refine f_stepP rfl rfl rfl (o_loadA (vs := [_, _]) Try.isAgg24 Try.sizeOf24 rfl rfl ⟨(rdA rfl), (rdA rfl), trivial⟩) ?_
  refine f_stepP rfl rfl rfl (o_move rfl) ?_
  refine f_step rfl rfl rfl (o_call Try.call12 rfl (fun w_ hp_ => In_spec N (some ⟨bg, 0, none⟩) l cg v w_ (roOwn (b := bg) hp_ (fun j v hj => app_get hj)) hl hN hok) ?_)
  rintro _ _ ⟨s3, m3, rfl, rfl, ho3⟩
  obtain ⟨A3, c3_, rfl, _⟩ := ho3.val
  dsimp only [List.cons_append, List.nil_append]
  refine f_stepP rfl rfl rfl (o_move rfl) ?_
  refine f_stepP rfl rfl rfl (o_extract rfl rfl) ?_
  refine f_stepP rfl rfl rfl (o_extract rfl rfl) ?_
  refine f_stepP rfl rfl rfl (o_assign rfl) ?_
  refine f_stepP rfl rfl rfl (o_assign rfl) ?_
  refine f_done ?_
  refine f_tn (kh11 _ _ ?_)
  clear kh11
  refine f_seq fun K12 kh12 => ?_
  refine f_region ?_
  refine f_stepP rfl rfl rfl (o_loadA (vs := [_, _]) Try.isAgg24 Try.sizeOf24 rfl rfl ⟨(rdA rfl), (rdA rfl), trivial⟩) ?_
  refine f_stepP rfl rfl rfl (o_move rfl) ?_
  refine f_step rfl rfl rfl (o_call Try.call23 rfl (fun w_ hp_ => RIn_spec N A l cap v w_ (hr.up0 hp_) hl hN hok) ?_)
  rintro _ _ ⟨s4, m4, rfl, rfl, ho4⟩
  obtain ⟨A4, c4_, rfl, _⟩ := ho4.val
  dsimp only [List.cons_append, List.nil_append]
  refine f_stepP rfl rfl rfl (o_move rfl) ?_
  refine f_stepP rfl rfl rfl (o_extract rfl rfl) ?_
  refine f_stepP rfl rfl rfl (o_extract rfl rfl) ?_
  refine f_stepP rfl rfl rfl (o_assign rfl) ?_
  refine f_stepP rfl rfl rfl (o_assign rfl) ?_
  refine f_done ?_
  refine f_tn (kh12 _ _ ?_)
  clear kh12
  refine f_seq fun K13 kh13 => ?_
  refine f_region ?_
  refine f_stepP rfl rfl rfl (o_loadA (vs := [_, _]) Try.isAgg24 Try.sizeOf24 rfl rfl ⟨(rdA rfl), (rdA rfl), trivial⟩) ?_
  refine f_stepP rfl rfl rfl (o_move rfl) ?_
  refine f_step rfl rfl rfl (o_call Try.call24 rfl (fun w_ hp_ => Neighbours_spec N (some ⟨bg, 0, none⟩) l cg v w_ (roOwn (b := bg) hp_ (fun j v hj => app_get hj)) hl hN hok) ?_)
  rintro _ _ ⟨A5, W5, c5_, m5, rfl, rfl, ho5, hW5⟩
  obtain ⟨_, _, e5, hc5⟩ := ho5.val
  cases e5
  dsimp only [List.cons_append, List.nil_append]
  refine f_stepP rfl rfl rfl (o_move rfl) ?_
  refine f_stepP rfl rfl rfl (o_extract rfl rfl) ?_
  refine f_stepP rfl rfl rfl (o_extract rfl rfl) ?_
  refine f_stepP rfl rfl rfl (o_assign rfl) ?_
  refine f_stepP rfl rfl rfl (o_assign rfl) ?_
  refine f_done ?_
  refine f_tn (kh13 _ _ ?_)
  clear kh13
  refine f_seq fun K14 kh14 => ?_
  refine f_region ?_
  refine f_stepP rfl rfl rfl (o_loadA (vs := [_, _]) Try.isAgg24 Try.sizeOf24 rfl rfl ⟨(rdA rfl), (rdA rfl), trivial⟩) ?_
  refine f_stepP rfl rfl rfl (o_move rfl) ?_
  refine f_step rfl rfl rfl (o_call Try.call25 rfl (fun w_ hp_ => RNeighbours_spec N A l cap v w_ (hr.up0 hp_) hl hN hok) ?_)
  rintro _ _ ⟨s6, W6, m6, rfl, rfl, ho6, hW60, hW61⟩
  obtain rfl := nb_same hW5 hW60 hW61
  obtain ⟨A6, c6_, rfl, _⟩ := ho6.val
  dsimp only [List.cons_append, List.nil_append]
  refine f_stepP rfl rfl rfl (o_move rfl) ?_
  refine f_stepP rfl rfl rfl (o_extract rfl rfl) ?_
  refine f_stepP rfl rfl rfl (o_extract rfl rfl) ?_
  refine f_stepP rfl rfl rfl (o_assign rfl) ?_
  refine f_stepP rfl rfl rfl (o_assign rfl) ?_
  refine f_done ?_
  refine f_tn (kh14 _ _ ?_)
  clear kh14
  refine f_seq fun K15 kh15 => ?_
  refine f_region ?_
  refine f_stepP rfl rfl rfl (o_loadA (vs := [_, _]) Try.isAgg24 Try.sizeOf24 rfl rfl ⟨(rdA rfl), (rdA rfl), trivial⟩) ?_
  refine f_step rfl rfl rfl (o_call Try.call14 rfl (fun w_ hp_ => meets_monoS (Parts_spec N (some ⟨bg, 0, none⟩) l cg w_ (roOwn (b := bg) hp_ (fun j v hj => app_get hj)) hl hN hok) (fun v m h => prt_of h)) ?_)
  rintro _ _ ⟨A7, p7, c7_, m7, rfl, rfl, ho7, hp70, hp71, hpl⟩
  dsimp only [List.cons_append, List.nil_append]
  refine f_stepP rfl rfl rfl (o_move rfl) ?_
  refine f_stepP rfl rfl rfl (o_extract rfl rfl) ?_
  refine f_stepP rfl rfl rfl (o_extract rfl rfl) ?_
  refine f_stepP rfl rfl rfl (o_assign rfl) ?_
  refine f_stepP rfl rfl rfl (o_assign rfl) ?_
  refine f_done ?_
  refine f_tn (kh15 _ _ ?_)
  clear kh15
  refine f_seq fun K16 kh16 => ?_
  refine f_region ?_
  refine f_stepP rfl rfl rfl (o_loadA (vs := [_, _]) Try.isAgg24 Try.sizeOf24 rfl rfl ⟨(rdA rfl), (rdA rfl), trivial⟩) ?_
  refine f_step rfl rfl rfl (o_call Try.call26 rfl (fun w_ hp_ => meets_monoS (RParts_spec N A l cap w_ (hr.up0 hp_) hl hN hok) (fun v m h => prt_of h)) ?_)
  rintro _ _ ⟨A8, p8, c8_, m8, rfl, rfl, ho8, hp80, hp81, _⟩
  obtain rfl := prt_same hp70 hp71 hp80 hp81
  dsimp only [List.cons_append, List.nil_append]
  refine f_stepP rfl rfl rfl (o_move rfl) ?_
  refine f_stepP rfl rfl rfl (o_extract rfl rfl) ?_
  refine f_stepP rfl rfl rfl (o_extract rfl rfl) ?_
  refine f_stepP rfl rfl rfl (o_assign rfl) ?_
  refine f_stepP rfl rfl rfl (o_assign rfl) ?_
  refine f_done ?_
  refine f_tn (kh16 _ _ ?_)
  clear kh16
  refine f_seq fun K17 kh17 => ?_
  refine f_seq fun K18 kh18 => ?_
  refine f_region ?_
  refine f_stepP rfl rfl rfl (o_move rfl) ?_
  refine f_stepP rfl rfl rfl (o_move rfl) ?_
  refine f_step rfl rfl rfl (o_call Try.call16 rfl (fun w_ hp_ => SameInts_spec A3 A4 (gends N l v fun x => decide (x.dst = v)) (gends N l v fun x => decide (x.dst = v)) c3_ c4_ w_ (seen_ro (ho3.seen hp_)) (seen_ro (ho4.seen hp_)) (by have := gends_len (N := N) (l := l) (v := v) (p := fun x => decide (x.dst = v)); omega)) ?_)
  rintro _ _ ⟨rfl, rfl⟩
  rw [decide_eq_true rfl]
  dsimp only [List.cons_append, List.nil_append]
  refine f_stepP rfl rfl rfl (o_not rfl) ?_
  refine f_stepP rfl rfl rfl (o_move rfl) ?_
  refine f_stepPY rfl rfl rfl rfl rfl (o_move rfl) ?_
  refine f_stepPY rfl rfl rfl rfl rfl (o_move rfl) ?_
  refine f_stepPY rfl rfl rfl rfl rfl (o_neq rfl rfl) ?_
  refine f_stepP rfl rfl rfl (o_pickF rfl rfl) ?_
  refine f_stepP rfl rfl rfl (o_move rfl) ?_
  refine f_falseL 106 rfl (by simp) ?_
  refine f_stepPY rfl rfl rfl rfl rfl (o_move rfl) ?_
  refine f_stepPY rfl rfl rfl rfl rfl (o_move rfl) ?_
  refine f_stepY rfl rfl rfl rfl rfl (o_call Try.call16 rfl (fun w_ hp_ => SameInts_spec A5 A6 (W5) (W5) W5.length c6_ w_ (seen_ro (ho5.seen hp_)) (seen_ro (ho6.seen hp_)) (by omega)) ?_)
  rintro _ _ ⟨rfl, rfl⟩
  rw [decide_eq_true rfl]
  dsimp only [List.cons_append, List.nil_append]
  refine f_stepPY rfl rfl rfl rfl rfl (o_not rfl) ?_
  refine f_stepP rfl rfl rfl (o_pickF rfl rfl) ?_
  refine f_stepP rfl rfl rfl (o_move rfl) ?_
  refine f_stepPY rfl rfl rfl rfl rfl (o_move rfl) ?_
  refine f_stepPY rfl rfl rfl rfl rfl (o_move rfl) ?_
  refine f_stepPY rfl rfl rfl rfl rfl (o_neq rfl rfl) ?_
  refine f_stepP rfl rfl rfl (o_pickF rfl rfl) ?_
  refine f_stepP rfl rfl rfl (o_move rfl) ?_
  refine f_falseL 117 rfl (by simp) ?_
  refine f_stepPY rfl rfl rfl rfl rfl (o_move rfl) ?_
  refine f_stepPY rfl rfl rfl rfl rfl (o_move rfl) ?_
  refine f_stepY rfl rfl rfl rfl rfl (o_call Try.call16 rfl (fun w_ hp_ => SameInts_spec A7 A8 (p7) (p7) c7_ c8_ w_ (seen_ro (ho7.seen hp_)) (seen_ro (ho8.seen hp_)) (by omega)) ?_)
  rintro _ _ ⟨rfl, rfl⟩
  rw [decide_eq_true rfl]
  dsimp only [List.cons_append, List.nil_append]
  refine f_stepPY rfl rfl rfl rfl rfl (o_not rfl) ?_
  refine f_stepP rfl rfl rfl (o_pickF rfl rfl) ?_
  refine f_stepP rfl rfl rfl (o_move rfl) ?_
  refine f_stepPY rfl rfl rfl rfl rfl (o_move rfl) ?_
  refine f_stepPY rfl rfl rfl rfl rfl (o_move rfl) ?_
  refine f_stepPY rfl rfl rfl rfl rfl (o_neq rfl rfl) ?_
  refine f_stepP rfl rfl rfl (o_pickF rfl rfl) ?_
  refine f_done ?_
  refine f_tn (kh18 _ _ ?_)
  clear kh18
  refine f_condN rfl (by simp) ?_
  refine f_skip ?_
  refine f_tn (kh17 _ _ ?_)
  clear kh17
  refine f_seq fun K19 kh19 => ?_
  refine f_region ?_
  refine f_stepP rfl rfl rfl (o_move rfl) ?_
  refine f_step rfl rfl rfl (o_callM [m3] _ Try.call27 rfl (Sub.pick Sub.refl) (fun w_ hp_ => SpoilInts_spec A3 _ c3_ _ m3 (-7) w_ ho3 hp_.owns) ?_)
  rintro v_ m_ ⟨rfl, rfl⟩
  dsimp only [List.cons_append, List.nil_append]
  refine f_done ?_
  refine f_tn (kh19 _ _ ?_)
  clear kh19
  refine f_seq fun K20 kh20 => ?_
  refine f_region ?_
  refine f_stepP rfl rfl rfl (o_move rfl) ?_
  refine f_step rfl rfl rfl (o_callM [m5] _ Try.call27 rfl (Sub.pick Sub.refl) (fun w_ hp_ => SpoilIntsC_spec A5 W5.length W5.length c5_ _ m5 (-8) w_ ho5 (Nat.le_refl _) hc5.1 hp_.owns) ?_)
  rintro v_ m_ ⟨rfl, rfl⟩
  dsimp only [List.cons_append, List.nil_append]
  refine f_done ?_
  refine f_tn (kh20 _ _ ?_)
  clear kh20
  refine f_seq fun K21 kh21 => ?_
  refine f_region ?_
  refine f_stepP rfl rfl rfl (o_move rfl) ?_
  refine f_step rfl rfl rfl (o_callM [m7] _ Try.call27 rfl (Sub.pick Sub.refl) (fun w_ hp_ => SpoilInts_spec A7 _ c7_ _ m7 (-9) w_ ho7 hp_.owns) ?_)
  rintro v_ m_ ⟨rfl, rfl⟩
  dsimp only [List.cons_append, List.nil_append]
  refine f_done ?_
  refine f_tn (kh21 _ _ ?_)
  clear kh21
  refine f_seq fun K22 kh22 => ?_
  refine f_region ?_
  refine f_stepP rfl rfl rfl (o_loadA (vs := [_, _]) Try.isAgg24 Try.sizeOf24 rfl rfl ⟨(rdA rfl), (rdA rfl), trivial⟩) ?_
  refine f_stepP rfl rfl rfl (o_loadA (vs := [_, _]) Try.isAgg24 Try.sizeOf24 rfl rfl ⟨(rdA rfl), (rdA rfl), trivial⟩) ?_
  refine f_step rfl rfl rfl (o_call Try.call28 rfl (fun w_ hp_ => KeptGraph_spec N bg cg A l cap rg w_ (roOwn (b := bg) hp_ (fun j v hj => hj)) (hr.up0 hp_) hg1 hg2) ?_)
  rintro _ _ ⟨rfl, rfl⟩
  dsimp only [List.cons_append, List.nil_append]
  refine f_stepP rfl rfl rfl (o_move rfl) ?_
  refine f_stepY rfl rfl rfl rfl rfl (o_call Try.call9 rfl (fun w_ hp_ => works_spec w_) ?_)
  rintro _ _ ⟨rfl, rfl⟩
  dsimp only [List.cons_append, List.nil_append]
  refine f_stepP rfl rfl rfl (o_pickT rfl rfl) ?_
  refine f_stepP rfl rfl rfl (o_assign rfl) ?_
  refine f_done ?_
  refine f_tn (kh22 _ _ ?_)
  clear kh22
  refine f_ret ?_
  exact f_fin1 [] Try.results8 rfl Sub.nil ⟨rfl, rfl⟩

end Go.Proofs.Ythbkeoejbendnaa
