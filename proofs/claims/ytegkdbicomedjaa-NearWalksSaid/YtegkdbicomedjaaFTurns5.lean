/- near.Within; flyoverlaw05.NearTurns answers true. -/
import Derived.Test.YtegkdbicomedjaaFMore5
import Derived.Test.YtegkdbicomedjaaFRev
namespace Go.Proofs.Ytegkdbicomedjaa
open Go Go.RowKit Fly
set_option linter.unusedVariables false
set_option linter.unusedSimpArgs false


theorem heldIn {S : Nat → Prop} {w0 w w' : World} {own fr : List Seg} {b : Nat} {cs : List Value} {T : TypeId} {f : Seg → List Seg} [h : At fr b (blk cs T) f] (hp : Hp S w0 (own ++ fr).flatten w) (hs : ∀ k, Fr w own k → w'.heap[k]? = w.heap[k]?) : Ro (Fr w' []) w' (some ⟨b, 0, none⟩) cs := fun hne => by
  rw [List.flatten_append] at hp
  have hmem : (b, blk cs T) ∈ fr.flatten := h.mem
  have hb := hp.own b _ (List.mem_append_right _ hmem)
  have hn : b ∉ own.flatten.map (·.1) := fun hm => by
    have := hp.nodup
    rw [List.map_append] at this
    exact (List.nodup_append.1 this).2.2 b hm b (List.mem_map.2 ⟨_, hmem, rfl⟩) rfl
  have e := hs b ⟨hp.key_lt (List.mem_append_right _ hmem), hn⟩
  rw [hb] at e
  exact ⟨b, 0, rfl, ⟨(Array.getElem?_eq_some_iff.1 e).1, by simp⟩, fun k v hk => by simp [World.cell?, e]; simpa using hk⟩
theorem ro_keep {S : Nat → Prop} {w0 w' : World} {A : Option Addr} {cs : List Value} (h : Ro S w0 A cs) (hlt : ∀ b, S b → b < w0.heap.size) (hs : ∀ k, S k → w'.heap[k]? = w0.heap[k]?) : Ro (Fr w' []) w' A cs := fun hne => by
  obtain ⟨b, off, rfl, hS, hc⟩ := h hne
  have e := hs b hS
  rw [Array.getElem?_eq_getElem (hlt b hS)] at e
  exact ⟨b, off, rfl, ⟨(Array.getElem?_eq_some_iff.1 e).1, by simp⟩, hc.same (hs b hS)⟩
/-- Which arcs end within. -/
def pW (l : List Arc) (inl : List Bool) (i : Nat) : Bool := (l[i]?.map (fun x => inl.getD x.dst.toNat false)).getD false
theorem pW_eq {l : List Arc} {inl : List Bool} {i : Nat} (h : i < l.length) (h' : l[i].dst.toNat < inl.length) : pW l inl i = inl[l[i].dst.toNat] := by
  simp [pW, h, List.getD_eq_getElem?_getD, h']
def wcode (N : Int) (l : List Arc) (s : Int) (len : Nat) : Int := if nlooked N l [s] ≠ 0 then nlooked N l [s] else if (len : Int) ≠ N then 4 else 0
def WithinΦ (N : Int) (l : List Arc) (s : Int) (inl : List Bool) (u : Value) (own : List Seg) : Prop :=
  ∃ v m D, u = .tuple #[v, .int .i64 (wcode N l s inl.length)] ∧ own = [m] ∧ Own 30 1 v D.length (u64s D) m ∧ (wcode N l s inl.length ≠ 0 → D = []) ∧
    (wcode N l s inl.length = 0 → if inl.getD s.toNat false = true then IsD N.toNat (l.map (trn false)) (pW l inl) s.toNat D else D = List.replicate N.toNat INF)
theorem Wk.sub {e : List Arc} {p q : Nat → Bool} (h : ∀ i, p i = true → q i = true) {s v : Nat} {m : Int} (hw : Wk e p s v m) : Wk e q s v m := by
  induction hw with
  | nil => exact .nil
  | @step m i hi hp _ ih => exact .step hi (h _ hp) ih
theorem within_ge {n : Nat} {l : List Arc} {inl : List Bool} {s : Nat} {C D : List Int} (hD : IsD n (l.map (trn false)) every s D) (hC : if inl.getD s false = true then IsD n (l.map (trn false)) (pW l inl) s C else C = List.replicate n INF) {v : Nat} (hv : v < n) : dg D v ≤ dg C v := by
  split at hC
  · rcases Int.lt_or_le (dg C v) INF with h | h
    · exact hD.le ((hC.walk v hv h).sub fun _ _ => rfl)
    · exact Int.le_trans (hD.rng v hv).2 h
  · subst hC; rw [show dg (List.replicate n INF) v = INF from by rw [dg_eq (by simpa using hv)]; simp]; exact (hD.rng v hv).2
theorem within_inf {n : Nat} {l : List Arc} {inl : List Bool} {s : Nat} {C : List Int} (hil : inl.length = n) (hC : if inl.getD s false = true then IsD n (l.map (trn false)) (pW l inl) s C else C = List.replicate n INF) {v : Nat} (hv : v < n) (hk : inl.getD v false = false) : dg C v = INF := by
  split at hC
  · rename_i hs
    rcases Int.lt_or_le (dg C v) INF with h | h
    · have hw := hC.walk v hv h
      generalize dg C v = m at hw
      cases hw with
      | nil => rw [hs] at hk; cases hk
      | @step m' i hi hp hw' =>
        have hi' : i < l.length := by simpa using hi
        rw [fw_get hi hi'] at hk
        rw [pW, List.getElem?_eq_getElem hi'] at hp
        simp only [Option.map_some, Option.getD_some] at hp
        rw [hk] at hp; cases hp
    · exact Int.le_antisymm (hC.rng v hv).2 h
  · subst hC; rw [dg_eq (by simpa using hv)]; simp
theorem nlooked_rev {N : Int} {l : List Arc} {vs : List Int} (h : (gcheck N l).2 = 0) : nlooked N (l.map revArc) vs = nlooked N l vs := by
  have h' := gcheck_rev h
  unfold nlooked; rw [if_neg (by omega), if_neg (c := (gcheck N l).2 ≠ 0) (by omega)]
theorem rev_tr (l : List Arc) : (l.map revArc).map (trn true) = l.map (trn false) := by rw [List.map_map]; rfl
theorem rev_fw (l : List Arc) : (l.map revArc).map (trn false) = l.map (trn true) := by rw [List.map_map]; rfl
theorem nlooked5 {N : Int} {l : List Arc} {s : Int} (h : (gcheck N l).2 = 0) (hn : nlooked N l [s] ≠ 0) : nlooked N l [s] = 5 := by
  have e : nlooked N l [s] = if [s].any (fun v => decide (v < 0) || decide (N ≤ v)) then 5 else 0 := by unfold nlooked; rw [if_neg (by rw [h]; decide)]
  rw [e] at hn ⊢
  split
  · rfl
  · rename_i h2; rw [if_neg h2] at hn; exact absurd rfl hn
theorem u64_ne {l : List Int} (h : l ≠ []) : u64s l ≠ [] := fun e => by have := u64s_length l; rw [e] at this; cases l <;> simp_all

theorem gok_le {N : Int} {l : List Arc} (h : (gcheck N l).2 = 0) : N.toNat ≤ 1024 := by
  obtain ⟨h1, h2, _, _⟩ := gcheck_zero h
  omega

set_option maxRecDepth 100000 in
set_option maxHeartbeats 4000000 in
theorem SameDists_spec (A B : Option Addr) (l r : List Int) (ca cb : Nat) (w : World) (hl : Ro (Fr w []) w A (u64s l)) (hr : Ro (Fr w []) w B (u64s r)) (hm : l.length ≤ 9223372036854775807) :
    Meets Try.prog 21 [.slice A l.length ca, .slice B r.length cb] w [] (fun u m => u = .bool (decide (l = r)) ∧ m = []) := by
  refine f_enter Try.func21 rfl Try.ntmps21 rfl Owns.nil ?_
  refine f_seq fun K1 kh1 => ?_
  refine f_region ?_
  refine f_stepP rfl rfl rfl (o_assign rfl) ?_
  refine f_done ?_
  refine f_tn (kh1 _ _ ?_)
  clear kh1
  refine f_seq fun K2 kh2 => ?_
  refine f_seq fun K3 kh3 => ?_
  refine f_region ?_
  refine f_stepP rfl rfl rfl (o_move rfl) ?_
  refine f_stepP rfl rfl rfl (o_len sl38 rfl) ?_
  refine f_stepP rfl rfl rfl (o_move rfl) ?_
  refine f_stepP rfl rfl rfl (o_len sl38 rfl) ?_
  refine f_stepP rfl rfl rfl (o_neq rfl rfl) ?_
  refine f_done ?_
  refine f_tn (kh3 _ _ ?_)
  clear kh3
  refine f_cond rfl (fun c10 => ?_) (fun c10 => ?_)
  · skip
    refine f_seq fun K4 kh4 => ?_
    refine f_region ?_
    refine f_stepP rfl rfl rfl (o_assign rfl) ?_
    refine f_done ?_
    refine f_tn (kh4 _ _ ?_)
    clear kh4
    refine f_ret ?_
    refine f_tr ?_
    exact f_fin1 [] Try.results21 rfl Sub.nil ⟨by rw [decide_eq_false]; intro e; subst e; omega, rfl⟩
  · skip
    have hlr : l.length = r.length := by omega
    refine f_skip ?_
    refine f_tn (kh2 _ _ ?_)
    clear kh2
    refine f_seq fun K5 kh5 => ?_
    refine f_seq fun K6 kh6 => ?_
    refine f_region ?_
    refine f_stepP rfl rfl rfl (o_assign rfl) ?_
    refine f_done ?_
    refine f_tn (kh6 _ _ ?_)
    clear kh6
    refine f_block ?_
    refine f_loopK (α := Nat) [0, 1] (fun k => [(5, .int .i64 (k : Int))]) (fun k => k ≤ l.length ∧ ∀ j (a : j < l.length) (b : j < r.length), j < k → l[j] = r[j]) (fun k => l.length - k) (0) ?_ ?_ ?_
    · exact (by repeat (first | exact trivial | refine ⟨rfl, ?_⟩))
    · exact ⟨by omega, fun j _ _ hj => by omega⟩
    · rintro k ⟨hkl, hpre⟩
      refine f_seq fun K7 kh7 => ?_
      refine f_seq fun K8 kh8 => ?_
      refine f_region ?_
      refine f_stepP rfl rfl rfl (o_move rfl) ?_
      refine f_stepP rfl rfl rfl (o_move rfl) ?_
      refine f_stepP rfl rfl rfl (o_len sl38 rfl) ?_
      refine f_stepP rfl rfl rfl (o_lss rfl rfl) ?_
      refine f_done ?_
      refine f_tn (kh8 _ _ ?_)
      clear kh8
      refine f_cond rfl (fun c14 => ?_) (fun c14 => ?_)
      · skip
        refine f_skip ?_
        refine f_tn (kh7 _ _ ?_)
        clear kh7
        refine f_seq fun K9 kh9 => ?_
        refine f_block ?_
        refine f_seq fun K10 kh10 => ?_
        refine f_regionS rfl (by decide +kernel) ?_
        have hk : k < l.length := by omega
        have hk' : k < r.length := by omega
        obtain ⟨b1, o1, rfl, hS1, hc1⟩ := hl (u64_ne (fun e => by subst e; simp at hk))
        obtain ⟨b2, o2, rfl, hS2, hc2⟩ := hr (u64_ne (fun e => by subst e; simp at hk'))
        refine f_stillP rfl rfl rfl (o_move rfl) ?_
        refine f_stillP rfl rfl rfl (o_move rfl) ?_
        refine f_stillP rfl rfl rfl (o_idx sl38 rfl rfl (o1 + k) ⟨by omega, by omega, by first | omega | (simp; done) | (simp; omega)⟩) ?_
        refine f_stillP rfl rfl rfl (o_load Try.isAgg30 rfl (roOne (enc := (.int .u64 ·)) hS1 hc1 hk)) ?_
        refine f_stillP rfl rfl rfl (o_move rfl) ?_
        refine f_stillP rfl rfl rfl (o_move rfl) ?_
        refine f_stillP rfl rfl rfl (o_idx sl38 rfl rfl (o2 + k) ⟨by omega, by omega, by first | omega | (simp; done) | (simp; omega)⟩) ?_
        refine f_stillP rfl rfl rfl (o_load Try.isAgg30 rfl (roOne (enc := (.int .u64 ·)) hS2 hc2 hk')) ?_
        refine f_stillP rfl rfl rfl (o_neq rfl rfl) ?_
        refine f_stillD ?_
        refine f_tn (kh10 _ _ ?_)
        clear kh10
        refine f_cond rfl (fun c25 => ?_) (fun c25 => ?_)
        · skip
          refine f_seq fun K11 kh11 => ?_
          refine f_region ?_
          refine f_stepP rfl rfl rfl (o_assign rfl) ?_
          refine f_done ?_
          refine f_tn (kh11 _ _ ?_)
          clear kh11
          refine f_ret ?_
          refine f_br ?_
          refine f_tr ?_
          refine f_tr ?_
          refine f_br ?_
          refine f_tr ?_
          exact f_fin1 [] Try.results21 rfl Sub.nil ⟨by rw [decide_eq_false]; exact ne_at hk hk' c25, rfl⟩
        · skip
          refine f_skip ?_
          refine f_bn ?_
          refine f_tn (kh9 _ _ ?_)
          clear kh9
          refine f_region ?_
          refine f_stepP rfl rfl rfl (o_move rfl) ?_
          refine f_stepP rfl rfl rfl (o_add rfl rfl _ (wrap_i64 (by omega))) ?_
          refine f_stepP rfl rfl rfl (o_assign rfl) ?_
          refine f_done ?_
          refine f_tn (f_again (k + 1) (by first | omega | (dsimp only; omega) | (simp; omega)) ⟨by omega, prefix_next hlr hk hpre (by omega)⟩ ?_ ?_ ?_)
          · exact (by repeat (first | exact trivial | refine ⟨rfl, ?_⟩))
          · exact (by repeat (first | exact trivial | refine ⟨rfl, ?_⟩))
          · repeat (first | exact Sub.nil | refine Sub.pick ?_ | refine Sub.castO rfl ?_ | refine Sub.skip ?_)
      · skip
        refine f_exit ?_
        refine f_te ?_
        clear kh7
        refine f_te ?_
        refine f_be ?_
        refine f_tn (kh5 _ _ ?_)
        clear kh5
        refine f_seq fun K12 kh12 => ?_
        refine f_region ?_
        refine f_stepP rfl rfl rfl (o_assign rfl) ?_
        refine f_done ?_
        refine f_tn (kh12 _ _ ?_)
        clear kh12
        refine f_ret ?_
        exact f_fin1 [] Try.results21 rfl Sub.nil ⟨by rw [decide_eq_true]; exact prefix_all hlr (by omega) hpre, rfl⟩

set_option maxRecDepth 100000 in
set_option maxHeartbeats 4000000 in
theorem Win1_spec (n : Nat) (A B : Option Addr) (l : List Arc) (inl : List Bool) (cap cb b1 b2 i : Nat) (w : World) (h1 : Ro (Fr w []) w (some ⟨b1, 0, none⟩) [.slice B inl.length cb]) (h2 : Ro (Fr w []) w (some ⟨b2, 0, none⟩) [.int .i64 (n : Int), .slice A l.length cap])
    (hr : Ro (Fr w []) w A (l.flatMap arcCs)) (hb : Ro (Fr w []) w B (inl.map .bool)) (hi : i < l.length) (hg : GOk n l) (hil : inl.length = n) :
    Meets Try.prog 49 ([.int .i64 (i : Int)] ++ [.pointer (some ⟨b1, 0, none⟩), .pointer (some ⟨b2, 0, none⟩)]) w [] (fun u m => u = .bool (pW l inl i) ∧ m = []) := by
  have hlen := hg.len
  have hgi := hg.good i hi
  have hdl : l[i].dst.toNat < inl.length := by omega
  obtain ⟨b', o', e', hS1, hc1⟩ := h1 (by simp)
  obtain ⟨rfl, rfl⟩ : b1 = b' ∧ 0 = o' := by cases e'; exact ⟨rfl, rfl⟩
  obtain ⟨b', o', e', hS2, hc2⟩ := h2 (by simp)
  obtain ⟨rfl, rfl⟩ : b2 = b' ∧ 0 = o' := by cases e'; exact ⟨rfl, rfl⟩
  obtain ⟨bl, off, rfl, hS, hc⟩ := hr (flat_ne arcCs arcCs_len (by omega) hi)
  obtain ⟨bi, oi, rfl, hSi, hci⟩ := hb (map_ne hdl)
  refine f_enter Try.func49 rfl Try.ntmps49 rfl Owns.nil ?_
  refine f_seq fun K1 kh1 => ?_
  refine f_region ?_
  refine f_stepP rfl rfl rfl (o_assign rfl) ?_
  refine f_done ?_
  refine f_tn (kh1 _ _ ?_)
  clear kh1
  refine f_seq fun K2 kh2 => ?_
  refine f_regionT 9 rfl (by decide +kernel) ?_
  refine f_stillP rfl rfl rfl (o_load Try.isAgg41 rfl (rdS hS1 (hc1 0 _ rfl))) ?_
  refine f_stillP rfl rfl rfl (o_field fa24_1 rfl) ?_
  refine f_stillP rfl rfl rfl (o_load Try.isAgg22 rfl (rdS hS2 (hc2 1 _ rfl))) ?_
  refine f_stillP rfl rfl rfl (o_move rfl) ?_
  refine f_stillP rfl rfl rfl (o_idx sl22 rfl rfl (off + i * 3) ⟨by omega, by omega, by first | omega | (simp; done) | (simp; omega)⟩) ?_
  refine f_stillP rfl rfl rfl (o_field fa44_1 rfl) ?_
  refine f_stillP rfl rfl rfl (o_load Try.isAgg3 rfl (rdS hS (by have := hc (i * 3 + 1) _ (by rw [flat_get arcCs arcCs_len l i 1 hi (by omega)]; rfl); rwa [← Nat.add_assoc] at this))) ?_
  refine f_stillP rfl rfl rfl (o_idx sl41 rfl rfl (oi + l[i].dst.toNat) ⟨by omega, by omega, by first | omega | (simp; done) | (simp; omega)⟩) ?_
  refine f_stillP rfl rfl rfl (o_load Try.isAgg4 rfl (roOne (enc := .bool) hSi hci hdl)) ?_
  refine f_stillD (f_tail ?_)
  refine f_stepP rfl rfl rfl (o_assign rfl) ?_
  refine f_done ?_
  refine f_tn (kh2 _ _ ?_)
  clear kh2
  refine f_ret ?_
  exact f_fin1 [] Try.results49 rfl Sub.nil ⟨by rw [pW_eq hi hdl], rfl⟩

set_option maxRecDepth 100000 in
set_option maxHeartbeats 4000000 in
theorem Within_spec (N : Int) (A : Option Addr) (l : List Arc) (cap : Nat) (s : Int) (B : Option Addr) (inl : List Bool) (cb : Nat) (w : World) (hr : Ro (Fr w []) w A (l.flatMap arcCs)) (hb : Ro (Fr w []) w B (inl.map .bool)) (hl : l.length ≤ 9223372036854775807) (hN : I64 N) (hok : ∀ x ∈ l, ArcOk x) :
    Meets Try.prog 27 [.agg #[.int .i64 N, .slice A l.length cap], .int .i64 s, .slice B inl.length cb] w [] (WithinΦ N l s inl) := by
  refine f_enter Try.func27 rfl Try.ntmps27 rfl Owns.nil ?_
  refine f_seq fun K1 kh1 => ?_
  refine f_region ?_
  refine f_step rfl rfl rfl (o_box rfl rfl fun b3 => ?_)
  refine f_step rfl rfl rfl (o_box rfl rfl fun b5 => ?_)
  refine f_stepP rfl rfl rfl (o_assign rfl) ?_
  refine f_stepP rfl rfl rfl (o_assign rfl) ?_
  refine f_done ?_
  refine f_tn (kh1 _ _ ?_)
  clear kh1
  refine f_seq fun K2 kh2 => ?_
  refine f_seq fun K3 kh3 => ?_
  refine f_region ?_
  refine f_stepP rfl rfl rfl (o_loadA (vs := [_, _]) Try.isAgg24 Try.sizeOf24 rfl rfl ⟨(rdA rfl), (rdA rfl), trivial⟩) ?_
  refine f_stepP rfl rfl rfl (o_move rfl) ?_
  refine f_step rfl rfl rfl (o_slice1 el28 (by omega) rfl rfl rfl fun b11 => ?_)
  refine f_step rfl rfl rfl (o_call Try.call32 rfl (fun w_ hp_ => looked_spec N A l cap (some ⟨b11, 0, none⟩) [s] 1 w_ (hr.up0 hp_) (roOwn (b := b11) hp_ (cs := ints [s]) (fun j v hj => hj)) hl hN hok (by simp)) ?_)
  rintro _ _ ⟨rfl, rfl⟩
  dsimp only [List.cons_append, List.nil_append]
  refine f_stepP rfl rfl rfl (o_assign rfl) ?_
  refine f_done ?_
  refine f_tn (kh3 _ _ ?_)
  clear kh3
  refine f_seq fun K4 kh4 => ?_
  refine f_region ?_
  refine f_stepP rfl rfl rfl (o_move rfl) ?_
  refine f_stepP rfl rfl rfl (o_neq rfl rfl) ?_
  refine f_done ?_
  refine f_tn (kh4 _ _ ?_)
  clear kh4
  refine f_cond rfl (fun c14 => ?_) (fun c14 => ?_)
  · skip
    refine f_seq fun K5 kh5 => ?_
    refine f_region ?_
    refine f_stepP rfl rfl rfl (o_move rfl) ?_
    refine f_stepP rfl rfl rfl (o_assign rfl) ?_
    refine f_stepP rfl rfl rfl (o_assign rfl) ?_
    refine f_done ?_
    refine f_tn (kh5 _ _ ?_)
    clear kh5
    refine f_ret ?_
    refine f_tr ?_
    have hw1 : wcode N l s inl.length = nlooked N l [s] := by unfold wcode; rw [if_pos c14]
    exact f_fin2 [[]] Try.results27 rfl rfl Sub.empty ⟨.slice none 0 0, [], [], by rw [hw1], rfl, Own.nil _ _, fun _ => rfl, fun h => by rw [hw1] at h; exact absurd h (c14)⟩
  · skip
    have hz : nlooked N l [s] = 0 := by simpa using c14
    obtain ⟨hg0, hv⟩ := nlooked_zero hz
    have hv1 := hv s (by simp)
    obtain ⟨n, rfl⟩ : ∃ n : Nat, N = n := ⟨N.toNat, by omega⟩
    obtain ⟨k, rfl⟩ : ∃ k : Nat, s = k := ⟨s.toNat, by omega⟩
    have hg := gok_of hg0 hok
    have hkn : k < n := by omega
    have hn1 := hg.n1
    have hlen := hg.len
    refine f_skip ?_
    refine f_tn (kh2 _ _ ?_)
    clear kh2
    refine f_seq fun K6 kh6 => ?_
    refine f_seq fun K7 kh7 => ?_
    refine f_region ?_
    refine f_stepP rfl rfl rfl (o_load Try.isAgg41 rfl (rdA rfl)) ?_
    refine f_stepP rfl rfl rfl (o_len sl41 rfl) ?_
    refine f_stepP rfl rfl rfl (o_field fa24_0 rfl) ?_
    refine f_stepP rfl rfl rfl (o_load Try.isAgg3 rfl (rdA rfl)) ?_
    refine f_stepP rfl rfl rfl (o_neq rfl rfl) ?_
    refine f_done ?_
    refine f_tn (kh7 _ _ ?_)
    clear kh7
    refine f_cond rfl (fun c20 => ?_) (fun c20 => ?_)
    · skip
      refine f_seq fun K8 kh8 => ?_
      refine f_region ?_
      refine f_stepP rfl rfl rfl (o_assign rfl) ?_
      refine f_stepP rfl rfl rfl (o_assign rfl) ?_
      refine f_done ?_
      refine f_tn (kh8 _ _ ?_)
      clear kh8
      refine f_ret ?_
      refine f_tr ?_
      have hw1 : wcode (n : Int) l (k : Int) inl.length = 4 := by unfold wcode; rw [if_neg (by omega), if_pos (by omega)]
      exact f_fin2 [[]] Try.results27 rfl rfl Sub.empty ⟨.slice none 0 0, [], [], by rw [hw1], rfl, Own.nil _ _, fun _ => rfl, fun h => by rw [hw1] at h; exact absurd h (by decide)⟩
    · skip
      have hil : inl.length = n := by omega
      have hw0 : wcode (n : Int) l (k : Int) inl.length = 0 := by unfold wcode; rw [if_neg (by omega), if_neg (by omega)]
      have hki : k < inl.length := by omega
      have hgd : inl.getD k false = inl[k] := by simp [List.getD_eq_getElem?_getD, hki]
      refine f_skip ?_
      refine f_tn (kh6 _ _ ?_)
      clear kh6
      refine f_seq fun K9 kh9 => ?_
      refine f_seq fun K10 kh10 => ?_
      refine f_region ?_
      refine f_stepP rfl rfl rfl (o_load Try.isAgg41 rfl (rdA rfl)) ?_
      refine f_stepP rfl rfl rfl (o_move rfl) ?_
      have hb2 := hb (map_ne hki)
      obtain ⟨bi, oi, rfl, hSi, hci⟩ := hb2
      refine f_stepP rfl rfl rfl (o_idx sl41 rfl rfl (oi + k) ⟨by omega, by omega, by first | omega | (simp; done) | (simp; omega)⟩) ?_
      refine f_stepP rfl rfl rfl (o_load Try.isAgg4 rfl (roOne (enc := .bool) hSi hci hki)) ?_
      refine f_stepP rfl rfl rfl (o_not rfl) ?_
      refine f_done ?_
      refine f_tn (kh10 _ _ ?_)
      clear kh10
      refine f_condB rfl (fun c25 => ?_) (fun c25 => ?_)
      · skip
        refine f_seq fun K11 kh11 => ?_
        refine f_region ?_
        refine f_step rfl rfl rfl (o_slice1 el38 (by omega) rfl rfl rfl fun b26 => ?_)
        refine f_stepP rfl rfl rfl (o_field fa24_0 rfl) ?_
        refine f_stepP rfl rfl rfl (o_load Try.isAgg3 rfl (rdA rfl)) ?_
        refine f_step rfl rfl rfl (o_call Try.call48 rfl (fun w_ hp_ => RepD_spec b26 0 1 n 18446744073709551615 w_ (roOwn (b := b26) hp_ (cs := [.int .u64 18446744073709551615]) (fun j v hj => hj)) (by omega)) ?_)
        rintro _ _ ⟨bd, rfl, rfl⟩
        dsimp only [List.cons_append, List.nil_append]
        refine f_stepP rfl rfl rfl (o_assign rfl) ?_
        refine f_stepP rfl rfl rfl (o_assign rfl) ?_
        refine f_done ?_
        refine f_tn (kh11 _ _ ?_)
        clear kh11
        refine f_ret ?_
        refine f_tr ?_
        have hf : inl[k] = false := by simpa using c25
        exact f_fin2 [[(bd, blk (u64s (List.replicate n INF)) 30)]] Try.results27 rfl rfl (by rw [← u64s_rep]; exact Sub.pick Sub.nil) ⟨_, _, List.replicate n INF, by rw [hw0], rfl, own_dist (by simp) hg.n1.2, fun h => absurd hw0 h, fun _ => by rw [Int.toNat_natCast, Int.toNat_natCast, hgd, hf, if_neg (by decide)]⟩
      · skip
        refine f_skip ?_
        refine f_tn (kh9 _ _ ?_)
        clear kh9
        refine f_seq fun K12 kh12 => ?_
        refine f_region ?_
        refine f_stepP rfl rfl rfl (o_loadA (vs := [_, _]) Try.isAgg24 Try.sizeOf24 rfl rfl ⟨(rdA rfl), (rdA rfl), trivial⟩) ?_
        refine f_stepP rfl rfl rfl (o_move rfl) ?_
        refine f_step rfl rfl rfl (o_call Try.call33 rfl (fun w_ hp_ => begin_spec n A l cap false k w_ (hr.up0 hp_) hg hkn) ?_)
        rintro _ _ ⟨bx, bd, m1, rfl, rfl, hS1⟩
        dsimp only [List.cons_append, List.nil_append]
        refine f_stepP rfl rfl rfl (o_func rfl rfl) ?_
        refine f_step rfl rfl rfl (o_callM [m1] _ Try.call34 rfl (Sub.pick Sub.refl) (fun w_ hp_ => all_spec n A l cap false (pW l inl) k bx bd (D0 n k) (B0 n) (T0 n k) [] m1 49 [.pointer (some ⟨b5, 0, none⟩), .pointer (some ⟨b3, 0, none⟩)] w_ (hr.up hp_) hg hS1 (SS_begin hkn) Try.call49 (fun w' hs i hi => Win1_spec n A (some ⟨bi, oi, none⟩) l inl cap cb b5 b3 i w' (heldIn hp_ hs) (heldIn hp_ hs) (ro_keep hr hp_.lt (hp_.chain hs)) (ro_keep hb hp_.lt (hp_.chain hs)) hi hg hil) hp_.owns) ?_)
        rintro _ _ ⟨d2, by2, T2, o2, m2, rfl, rfl, hS2, hSS2, ht2⟩
        dsimp only [List.cons_append, List.nil_append]
        refine f_stepP rfl rfl rfl (o_assign rfl) ?_
        refine f_stepP rfl rfl rfl (o_assign rfl) ?_
        refine f_done ?_
        refine f_tn (kh12 _ _ ?_)
        clear kh12
        refine f_ret ?_
        have hf : inl[k] = true := by simpa using c25
        obtain ⟨bo, bb, bH, vs, ms, hm, hmp, hR, hH⟩ := hS2
        exact f_fin2 [[(bd, blk (u64s d2) 30)]] Try.results27 rfl rfl (Sub.pickF (m := m2) hmp (by unfold ssegs; dsimp only [List.cons_append, List.nil_append]; exact Sub.pick Sub.nil)) ⟨_, _, d2, by rw [hw0], rfl, own_dist hSS2.ld hg.n1.2, fun h => absurd hw0 h, fun _ => by rw [Int.toNat_natCast, Int.toNat_natCast, hgd, hf, if_pos rfl]; exact hSS2.done ht2 (hg.src _) (hg.dst _) (hg.wt _)⟩

set_option maxRecDepth 100000 in
set_option maxHeartbeats 4000000 in
theorem NearTurns_spec (N : Int) (A : Option Addr) (l : List Arc) (cap : Nat) (s t : Int) (X : Value) (B : Option Addr) (inl : List Bool) (cb : Nat) (w : World) (hr : Ro (Fr w []) w A (l.flatMap arcCs)) (hb : Ro (Fr w []) w B (inl.map .bool)) (hl : l.length ≤ 9223372036854775807) (hN : I64 N) (hok : ∀ x ∈ l, ArcOk x) :
    Meets Try.prog 8 [.agg #[.int .i64 N, .slice A l.length cap], .agg #[.int .i64 s, .int .i64 t, X], .slice B inl.length cb] w [] (fun u m => u = .bool true ∧ m = []) := by
  refine f_enter Try.func8 rfl Try.ntmps8 rfl Owns.nil ?_
  refine f_seq fun K1 kh1 => ?_
  refine f_region ?_
  refine f_step rfl rfl rfl (o_box rfl rfl fun b3 => ?_)
  refine f_step rfl rfl rfl (o_box rfl rfl fun b4 => ?_)
  refine f_stepP rfl rfl rfl (o_assign rfl) ?_
  refine f_done ?_
  refine f_tn (kh1 _ _ ?_)
  clear kh1
  refine f_seq fun K2 kh2 => ?_
  refine f_regionH [[(b3, blk [.int .i64 N, .slice A l.length cap] 24)], [(b4, blk [.int .i64 s, .int .i64 t, X] 53)]] rfl ?_
  refine f_take 0 rfl (by decide +kernel) rfl rfl rfl (by repeat (first | exact Sub.nil | refine Sub.pick ?_ | refine Sub.castO rfl ?_ | refine Sub.skip ?_)) (o_field fa53_0 rfl) ?_
  refine f_take 1 rfl (by decide +kernel) rfl rfl rfl (by repeat (first | exact Sub.nil | refine Sub.pick ?_ | refine Sub.castO rfl ?_ | refine Sub.skip ?_)) (o_load Try.isAgg3 rfl (rdA rfl)) ?_
  refine f_take 2 rfl (by decide +kernel) rfl rfl rfl (by repeat (first | exact Sub.nil | refine Sub.pick ?_ | refine Sub.castO rfl ?_ | refine Sub.skip ?_)) (o_field fa53_1 rfl) ?_
  refine f_take 3 rfl (by decide +kernel) rfl rfl rfl (by repeat (first | exact Sub.nil | refine Sub.pick ?_ | refine Sub.castO rfl ?_ | refine Sub.skip ?_)) (o_load Try.isAgg3 rfl (rdA rfl)) ?_
  refine f_take 4 rfl (by decide +kernel) rfl rfl rfl (by repeat (first | exact Sub.nil | refine Sub.pick ?_ | refine Sub.castO rfl ?_ | refine Sub.skip ?_)) (o_assign rfl) ?_
  refine f_take 5 rfl (by decide +kernel) rfl rfl rfl (by repeat (first | exact Sub.nil | refine Sub.pick ?_ | refine Sub.castO rfl ?_ | refine Sub.skip ?_)) (o_assign rfl) ?_
  refine f_over (by decide +kernel) ?_
  refine f_tn (kh2 _ _ ?_)
  clear kh2
  refine f_seq fun K3 kh3 => ?_
  refine f_seq fun K4 kh4 => ?_
  refine f_region ?_
  refine f_step rfl rfl rfl (o_call Try.call11 rfl (fun w_ hp_ => works_spec w_) ?_)
  rintro _ _ ⟨rfl, rfl⟩
  dsimp only [List.cons_append, List.nil_append]
  refine f_stepP rfl rfl rfl (o_not rfl) ?_
  refine f_done ?_
  refine f_tn (kh4 _ _ ?_)
  clear kh4
  refine f_condF rfl ?_
  refine f_skip ?_
  refine f_tn (kh3 _ _ ?_)
  clear kh3
  refine f_seq fun K5 kh5 => ?_
  refine f_region ?_
  refine f_stepP rfl rfl rfl (o_loadA (vs := [_, _]) Try.isAgg24 Try.sizeOf24 rfl rfl ⟨(rdA rfl), (rdA rfl), trivial⟩) ?_
  refine f_step rfl rfl rfl (o_call Try.call26 rfl (fun w_ hp_ => Reverse_spec N A l cap w_ (hr.up0 hp_) hl hN hok) ?_)
  rintro v29 m29 hR
  by_cases hc0 : (gcheck N l).2 = 0
  rotate_left
  · rw [RevΦ, if_neg hc0] at hR
    obtain ⟨rfl, rfl⟩ := hR
    dsimp only [List.cons_append, List.nil_append]
    refine f_stepP rfl rfl rfl (o_move rfl) ?_
    refine f_stepP rfl rfl rfl (o_extract rfl rfl) ?_
    refine f_stepP rfl rfl rfl (o_extract rfl rfl) ?_
    refine f_step rfl rfl rfl (o_alloc Try.zeroValue24 rfl fun b9 => ?_)
    refine f_step0 rfl rfl (o_storeA Try.sizeOf24 rfl rfl rfl rfl (by first | exact Nat.le_of_ble_eq_true rfl | (simp; done) | (simp; omega)) _ rfl ?_)
    refine f_stepP rfl rfl rfl (o_assign rfl) ?_
    refine f_done ?_
    refine f_tn (kh5 _ _ ?_)
    clear kh5
    refine f_seq fun K6 kh6 => ?_
    refine f_seq fun K7 kh7 => ?_
    refine f_region ?_
    refine f_stepP rfl rfl rfl (o_move rfl) ?_
    refine f_stepP rfl rfl rfl (o_neq rfl rfl) ?_
    refine f_done ?_
    refine f_tn (kh7 _ _ ?_)
    clear kh7
    refine f_condY rfl (hc0) ?_
    refine f_seq fun K8 kh8 => ?_
    refine f_region ?_
    refine f_stepP rfl rfl rfl (o_loadA (vs := [_, _]) Try.isAgg24 Try.sizeOf24 rfl rfl ⟨(rdA rfl), (rdA rfl), trivial⟩) ?_
    refine f_stepP rfl rfl rfl (o_move rfl) ?_
    refine f_step rfl rfl rfl (o_call Try.call17 rfl (fun w_ hp_ => From_spec N A l cap s w_ (hr.up0 hp_) hl hN hok) ?_)
    rintro _ _ ⟨v11, m11, D11, rfl, rfl, ho11, _, _⟩
    obtain ⟨A11, c11, rfl, hc11⟩ := ho11.val
    dsimp only [List.cons_append, List.nil_append]
    refine f_stepP rfl rfl rfl (o_move rfl) ?_
    refine f_stepP rfl rfl rfl (o_extract rfl rfl) ?_
    refine f_stepP rfl rfl rfl (o_extract rfl rfl) ?_
    refine f_stepP rfl rfl rfl (o_assign rfl) ?_
    refine f_stepP rfl rfl rfl (o_assign rfl) ?_
    refine f_done ?_
    refine f_tn (kh8 _ _ ?_)
    clear kh8
    refine f_seq fun K9 kh9 => ?_
    refine f_region ?_
    refine f_stepP rfl rfl rfl (o_move rfl) ?_
    refine f_stepP rfl rfl rfl (o_move rfl) ?_
    refine f_stepP rfl rfl rfl (o_eql rfl rfl) ?_
    refine f_stepP rfl rfl rfl (o_assign rfl) ?_
    refine f_done ?_
    refine f_tn (kh9 _ _ ?_)
    clear kh9
    refine f_ret ?_
    refine f_tr ?_
    exact f_fin1 [] Try.results8 rfl Sub.nil ⟨by rw [decide_eq_true (by unfold nlooked; rw [if_pos hc0])], rfl⟩
  rw [RevΦ, if_pos hc0] at hR
  obtain ⟨b, rfl, rfl⟩ := hR
  have hlr : (l.map revArc).length = l.length := List.length_map _
  dsimp only [List.cons_append, List.nil_append]
  refine f_stepP rfl rfl rfl (o_move rfl) ?_
  refine f_stepP rfl rfl rfl (o_extract rfl rfl) ?_
  refine f_stepP rfl rfl rfl (o_extract rfl rfl) ?_
  refine f_step rfl rfl rfl (o_alloc Try.zeroValue24 rfl fun b9 => ?_)
  refine f_step0 rfl rfl (o_storeA Try.sizeOf24 rfl rfl rfl rfl (by first | exact Nat.le_of_ble_eq_true rfl | (simp; done) | (simp; omega)) _ rfl ?_)
  refine f_stepP rfl rfl rfl (o_assign rfl) ?_
  refine f_done ?_
  refine f_tn (kh5 _ _ ?_)
  clear kh5
  refine f_seq fun K10 kh10 => ?_
  refine f_seq fun K11 kh11 => ?_
  refine f_region ?_
  refine f_stepP rfl rfl rfl (o_move rfl) ?_
  refine f_stepP rfl rfl rfl (o_neq rfl rfl) ?_
  refine f_done ?_
  refine f_tn (kh11 _ _ ?_)
  clear kh11
  refine f_condN rfl (by simp) ?_
  refine f_skip ?_
  refine f_tn (kh10 _ _ ?_)
  clear kh10
  refine f_seq fun K12 kh12 => ?_
  refine f_region ?_
  refine f_stepP rfl rfl rfl (o_loadA (vs := [_, _]) Try.isAgg24 Try.sizeOf24 rfl rfl ⟨(rdA rfl), (rdA rfl), trivial⟩) ?_
  refine f_stepP rfl rfl rfl (o_move rfl) ?_
  refine f_step rfl rfl rfl (o_call Try.call17 rfl (fun w_ hp_ => From_spec N A l cap s w_ (hr.up0 hp_) hl hN hok) ?_)
  rintro _ _ ⟨v13, m13, D, rfl, rfl, hoD, hD1, hD0⟩
  obtain ⟨A13, c13, rfl, hc13⟩ := hoD.val
  dsimp only [List.cons_append, List.nil_append]
  refine f_stepP rfl rfl rfl (o_move rfl) ?_
  refine f_stepP rfl rfl rfl (o_extract rfl rfl) ?_
  refine f_stepP rfl rfl rfl (o_extract rfl rfl) ?_
  refine f_stepP rfl rfl rfl (o_assign rfl) ?_
  refine f_stepP rfl rfl rfl (o_assign rfl) ?_
  refine f_done ?_
  refine f_tn (kh12 _ _ ?_)
  clear kh12
  refine f_seq fun K13 kh13 => ?_
  refine f_region ?_
  refine f_stepP rfl rfl rfl (o_loadA (vs := [_, _]) Try.isAgg24 Try.sizeOf24 rfl rfl ⟨(rdA rfl), (rdA rfl), trivial⟩) ?_
  refine f_stepP rfl rfl rfl (o_move rfl) ?_
  refine f_step rfl rfl rfl (o_call Try.call22 rfl (fun w_ hp_ => To_spec N (some ⟨b, 0, none⟩) (l.map revArc) (l.map revArc).length s w_ (roOwn (b := b) hp_ (cs := (l.map revArc).flatMap arcCs) (fun j v hj => hj)) (by omega) hN (rev_ok hok)) ?_)
  rintro _ _ ⟨v14, m14, E, rfl, rfl, hoE, hE1, hE0⟩
  rw [nlooked_rev hc0] at hE1 hE0 ⊢
  rw [rev_tr] at hE0
  obtain rfl : D = E := by
    by_cases hz : nlooked N l [s] = 0
    · exact (hD0 hz).1.unique (hE0 hz).1
    · rw [hD1 hz, hE1 hz]
  obtain ⟨A14, c14, rfl, hc14⟩ := hoE.val
  clear hE1 hE0
  dsimp only [List.cons_append, List.nil_append]
  refine f_stepP rfl rfl rfl (o_move rfl) ?_
  refine f_stepP rfl rfl rfl (o_extract rfl rfl) ?_
  refine f_stepP rfl rfl rfl (o_extract rfl rfl) ?_
  refine f_stepP rfl rfl rfl (o_assign rfl) ?_
  refine f_stepP rfl rfl rfl (o_assign rfl) ?_
  refine f_done ?_
  refine f_tn (kh13 _ _ ?_)
  clear kh13
  refine f_seq fun K14 kh14 => ?_
  refine f_seq fun K15 kh15 => ?_
  refine f_region ?_
  refine f_stepP rfl rfl rfl (o_move rfl) ?_
  refine f_stepP rfl rfl rfl (o_move rfl) ?_
  refine f_stepP rfl rfl rfl (o_neq rfl rfl) ?_
  refine f_stepP rfl rfl rfl (o_move rfl) ?_
  refine f_falseL 58 rfl (by simp) ?_
  refine f_stepPY rfl rfl rfl rfl rfl (o_move rfl) ?_
  refine f_stepPY rfl rfl rfl rfl rfl (o_move rfl) ?_
  refine f_stepY rfl rfl rfl rfl rfl (o_call Try.call21 rfl (fun w_ hp_ => SameDists_spec A13 A14 D D c13 c14 w_ (seen_ro (hoD.seen hp_)) (seen_ro (hoE.seen hp_)) (by by_cases hz : nlooked N l [s] = 0; (have h1 := (hD0 hz).1.len; have h2 := (gok_le (nlooked_zero hz).1); omega); rw [hD1 hz]; simp)) ?_)
  rintro _ _ ⟨rfl, rfl⟩
  rw [decide_eq_true rfl]
  dsimp only [List.cons_append, List.nil_append]
  refine f_stepPY rfl rfl rfl rfl rfl (o_not rfl) ?_
  refine f_stepP rfl rfl rfl (o_pickF rfl rfl) ?_
  refine f_done ?_
  refine f_tn (kh15 _ _ ?_)
  clear kh15
  refine f_condF rfl ?_
  refine f_skip ?_
  refine f_tn (kh14 _ _ ?_)
  clear kh14
  refine f_seq fun K16 kh16 => ?_
  refine f_seq fun K17 kh17 => ?_
  refine f_region ?_
  refine f_stepP rfl rfl rfl (o_move rfl) ?_
  refine f_stepP rfl rfl rfl (o_neq rfl rfl) ?_
  refine f_done ?_
  refine f_tn (kh17 _ _ ?_)
  clear kh17
  refine f_cond rfl (fun c65 => ?_) (fun c65 => ?_)
  · skip
    refine f_seq fun K18 kh18 => ?_
    refine f_region ?_
    refine f_stepP rfl rfl rfl (o_move rfl) ?_
    refine f_stepP rfl rfl rfl (o_eql rfl rfl) ?_
    refine f_stepP rfl rfl rfl (o_assign rfl) ?_
    refine f_done ?_
    refine f_tn (kh18 _ _ ?_)
    clear kh18
    refine f_ret ?_
    refine f_tr ?_
    exact f_fin1 [] Try.results8 rfl Sub.nil ⟨by rw [decide_eq_true (nlooked5 hc0 c65)], rfl⟩
  · skip
    have hz : nlooked N l [s] = 0 := by simpa using c65
    obtain ⟨hg0, hv⟩ := nlooked_zero hz
    have hv1 := hv s (by simp)
    obtain ⟨n, rfl⟩ : ∃ n : Nat, N = n := ⟨N.toNat, by omega⟩
    obtain ⟨k, rfl⟩ : ∃ k : Nat, s = k := ⟨s.toNat, by omega⟩
    have hg := gok_of hg0 hok
    have hkn : k < n := by omega
    have hn1 := hg.n1
    have hlen := hg.len
    obtain ⟨hD, _⟩ := hD0 hz
    rw [Int.toNat_natCast, Int.toNat_natCast] at hD
    have hDl := hD.len
    obtain ⟨bD, spD, rfl, rfl⟩ := hoD.at_ (by omega)
    refine f_skip ?_
    refine f_tn (kh16 _ _ ?_)
    clear kh16
    refine f_meet (α := Unit) [2, 3, 7, 13] (fun _ => []) (fun _ => [[(b3, blk [.int .i64 (n : Int), .slice A l.length cap] 24)], [(bD, blk (u64s D ++ spD) 30)]]) (fun _ => True) ?_ ?_
    · intro K19 kh19
      refine f_seq fun K20 kh20 => ?_
      refine f_region ?_
      refine f_stepP rfl rfl rfl (o_move rfl) ?_
      refine f_stepP rfl rfl rfl (o_geq rfl rfl) ?_
      refine f_stepP rfl rfl rfl (o_move rfl) ?_
      refine f_splitL 70 rfl (fun g70 => ?_) (fun g70 => ?_)
      · skip
        refine f_stepPY rfl rfl rfl rfl rfl (o_move rfl) ?_
        refine f_stepPY rfl rfl rfl rfl rfl (o_field fa24_0 rfl) ?_
        refine f_stepPY rfl rfl rfl rfl rfl (o_load Try.isAgg3 rfl (rdA rfl)) ?_
        refine f_stepPY rfl rfl rfl rfl rfl (o_lss rfl rfl) ?_
        refine f_stepP rfl rfl rfl (o_pickT rfl rfl) ?_
        refine f_done ?_
        refine f_tn (kh20 _ _ ?_)
        clear kh20
        refine f_cond rfl (fun c75 => ?_) (fun c75 => ?_)
        · skip
          refine f_seq fun K21 kh21 => ?_
          refine f_region ?_
          refine f_stepP rfl rfl rfl (o_loadA (vs := [_, _]) Try.isAgg24 Try.sizeOf24 rfl rfl ⟨(rdA rfl), (rdA rfl), trivial⟩) ?_
          refine f_stepP rfl rfl rfl (o_move rfl) ?_
          refine f_stepP rfl rfl rfl (o_move rfl) ?_
          refine f_step rfl rfl rfl (o_call Try.call19 rfl (fun w_ hp_ => Between_spec (n : Int) (some ⟨b, 0, none⟩) (l.map revArc) (l.map revArc).length t (k : Int) w_ (roOwn (b := b) hp_ (cs := (l.map revArc).flatMap arcCs) (fun j v hj => hj)) (by omega) hN (rev_ok hok)) ?_)
          rintro _ _ ⟨y, rfl, rfl, hy1, hy0⟩
          have hz2 : nlooked (n : Int) (l.map revArc) [t, (k : Int)] = 0 := by
            rw [nlooked_rev hc0]; unfold nlooked; rw [if_neg (by omega), if_neg (by simp; omega)]
          rw [hz2]
          obtain ⟨t, rfl⟩ : ∃ k : Nat, t = k := ⟨t.toNat, by omega⟩
          have hB := (hy0 hz2).2
          rw [rev_fw, Int.toNat_natCast, Int.toNat_natCast] at hB
          obtain rfl : y = dg D t := hB.turn.unique (hD.isB (by omega))
          dsimp only [List.cons_append, List.nil_append]
          refine f_stepP rfl rfl rfl (o_move rfl) ?_
          refine f_stepP rfl rfl rfl (o_extract rfl rfl) ?_
          refine f_stepP rfl rfl rfl (o_extract rfl rfl) ?_
          refine f_stepP rfl rfl rfl (o_assign rfl) ?_
          refine f_stepP rfl rfl rfl (o_assign rfl) ?_
          refine f_done ?_
          refine f_tn (kh21 _ _ ?_)
          clear kh21
          refine f_seq fun K22 kh22 => ?_
          refine f_region ?_
          refine f_stepP rfl rfl rfl (o_move rfl) ?_
          refine f_stepP rfl rfl rfl (o_neq rfl rfl) ?_
          refine f_stepP rfl rfl rfl (o_move rfl) ?_
          refine f_falseL 85 rfl (by simp) ?_
          refine f_stepPY rfl rfl rfl rfl rfl (o_move rfl) ?_
          refine f_stepPY rfl rfl rfl rfl rfl (o_move rfl) ?_
          refine f_stepPY rfl rfl rfl rfl rfl (o_move rfl) ?_
          refine f_stepPY rfl rfl rfl rfl rfl (o_idx sl38 rfl rfl (t) ⟨by omega, by omega, by first | omega | (simp; done) | (simp; omega)⟩) ?_
          refine f_stepPY rfl rfl rfl rfl rfl (o_load Try.isAgg30 rfl (rdA (app_get (u64s_at (dg_at (by omega)))))) ?_
          refine f_stepPY rfl rfl rfl rfl rfl (o_neq rfl rfl) ?_
          refine f_stepP rfl rfl rfl (o_pickF rfl rfl) ?_
          refine f_done ?_
          refine f_tn (kh22 _ _ ?_)
          clear kh22
          refine f_condN rfl (by simp) ?_
          refine f_skip ?_
          refine f_tn (kh19 _ _ (()) trivial ?_ ?_ ?_)
          · exact (by repeat (first | exact trivial | refine ⟨rfl, ?_⟩))
          · exact (by repeat (first | exact trivial | refine ⟨rfl, ?_⟩))
          · repeat (first | exact Sub.nil | refine Sub.pick ?_ | refine Sub.castO rfl ?_ | refine Sub.skip ?_)
        · skip
          refine f_skip ?_
          refine f_tn (kh19 _ _ (()) trivial ?_ ?_ ?_)
          · exact (by repeat (first | exact trivial | refine ⟨rfl, ?_⟩))
          · exact (by repeat (first | exact trivial | refine ⟨rfl, ?_⟩))
          · repeat (first | exact Sub.nil | refine Sub.pick ?_ | refine Sub.castO rfl ?_ | refine Sub.skip ?_)
      · skip
        refine f_stepN rfl rfl rfl rfl rfl rfl ?_
        refine f_stepN rfl rfl rfl rfl rfl rfl ?_
        refine f_stepN rfl rfl rfl rfl rfl rfl ?_
        refine f_stepN rfl rfl rfl rfl rfl rfl ?_
        refine f_stepP rfl rfl rfl (o_pickF rfl rfl) ?_
        refine f_done ?_
        refine f_tn (kh20 _ _ ?_)
        clear kh20
        refine f_condF rfl ?_
        refine f_skip ?_
        refine f_tn (kh19 _ _ (()) trivial ?_ ?_ ?_)
        · exact (by repeat (first | exact trivial | refine ⟨rfl, ?_⟩))
        · exact (by repeat (first | exact trivial | refine ⟨rfl, ?_⟩))
        · repeat (first | exact Sub.nil | refine Sub.pick ?_ | refine Sub.castO rfl ?_ | refine Sub.skip ?_)
    · rintro _ _
      refine f_seq fun K23 kh23 => ?_
      refine f_region ?_
      refine f_stepP rfl rfl rfl (o_loadA (vs := [_, _]) Try.isAgg24 Try.sizeOf24 rfl rfl ⟨(rdA rfl), (rdA rfl), trivial⟩) ?_
      refine f_stepP rfl rfl rfl (o_move rfl) ?_
      refine f_stepP rfl rfl rfl (o_move rfl) ?_
      refine f_step rfl rfl rfl (o_call Try.call27 rfl (fun w_ hp_ => Within_spec (n : Int) A l cap (k : Int) B inl cb w_ (hr.up0 hp_) (hb.up0 hp_) hl hN hok) ?_)
      rintro _ _ ⟨v18, m18, C, rfl, rfl, hoC, hC1, hC0⟩
      obtain ⟨A18, c18, rfl, hc18⟩ := hoC.val
      dsimp only [List.cons_append, List.nil_append]
      refine f_stepP rfl rfl rfl (o_move rfl) ?_
      refine f_stepP rfl rfl rfl (o_extract rfl rfl) ?_
      refine f_stepP rfl rfl rfl (o_extract rfl rfl) ?_
      refine f_stepP rfl rfl rfl (o_assign rfl) ?_
      refine f_stepP rfl rfl rfl (o_assign rfl) ?_
      refine f_done ?_
      refine f_tn (kh23 _ _ ?_)
      clear kh23
      refine f_seq fun K24 kh24 => ?_
      refine f_seq fun K25 kh25 => ?_
      refine f_region ?_
      refine f_stepP rfl rfl rfl (o_move rfl) ?_
      refine f_stepP rfl rfl rfl (o_neq rfl rfl) ?_
      refine f_done ?_
      refine f_tn (kh25 _ _ ?_)
      clear kh25
      refine f_cond rfl (fun c101 => ?_) (fun c101 => ?_)
      · skip
        refine f_seq fun K26 kh26 => ?_
        refine f_region ?_
        refine f_stepP rfl rfl rfl (o_move rfl) ?_
        refine f_stepP rfl rfl rfl (o_eql rfl rfl) ?_
        refine f_stepP rfl rfl rfl (o_assign rfl) ?_
        refine f_done ?_
        refine f_tn (kh26 _ _ ?_)
        clear kh26
        refine f_ret ?_
        refine f_tr ?_
        exact f_fin1 [] Try.results8 rfl Sub.nil ⟨by rw [decide_eq_true (by have h := c101; unfold wcode at h ⊢; rw [if_neg (by omega)] at h ⊢; split at h <;> first | rfl | omega)], rfl⟩
      · skip
        have hw0 : wcode (n : Int) l (k : Int) inl.length = 0 := by simpa using c101
        have hC := hC0 hw0
        rw [Int.toNat_natCast, Int.toNat_natCast] at hC
        have hil : inl.length = n := by unfold wcode at hw0; rw [if_neg (by omega)] at hw0; split at hw0 <;> omega
        have hCl : C.length = n := by split at hC; (exact hC.len); (rw [hC]; simp)
        obtain ⟨bC, spC, rfl, rfl⟩ := hoC.at_ (by omega)
        refine f_skip ?_
        refine f_tn (kh24 _ _ ?_)
        clear kh24
        refine f_seq fun K27 kh27 => ?_
        refine f_seq fun K28 kh28 => ?_
        refine f_region ?_
        refine f_stepP rfl rfl rfl (o_move rfl) ?_
        refine f_stepP rfl rfl rfl (o_len sl38 rfl) ?_
        refine f_stepP rfl rfl rfl (o_move rfl) ?_
        refine f_done ?_
        refine f_tn (kh28 _ _ ?_)
        clear kh28
        refine f_block ?_
        refine f_loop (α := Nat) [2, 13, 18, 105] (fun v => [(106, .int .i64 (v : Int))]) (fun v => [[(bC, blk (u64s C ++ spC) 30)], [(bD, blk (u64s D ++ spD) 30)]]) (fun v => v ≤ n) (fun v => n - v) (0) ?_ ?_ ?_ ?_
        · exact (by repeat (first | exact trivial | refine ⟨rfl, ?_⟩))
        · repeat (first | exact Sub.nil | refine Sub.pick ?_ | refine Sub.castO rfl ?_ | refine Sub.skip ?_)
        · exact Nat.zero_le _
        · rintro v hvn
          refine f_seq fun K29 kh29 => ?_
          refine f_region ?_
          refine f_stepP rfl rfl rfl (o_lss rfl rfl) ?_
          refine f_done ?_
          refine f_tn (kh29 _ _ ?_)
          clear kh29
          refine f_seq fun K30 kh30 => ?_
          refine f_cond rfl (fun c107 => ?_) (fun c107 => ?_)
          · skip
            refine f_skip ?_
            refine f_tn (kh30 _ _ ?_)
            clear kh30
            refine f_seq fun K31 kh31 => ?_
            refine f_block ?_
            refine f_seq fun K32 kh32 => ?_
            refine f_region ?_
            refine f_stepP rfl rfl rfl (o_move rfl) ?_
            refine f_stepP rfl rfl rfl (o_assign rfl) ?_
            refine f_done ?_
            refine f_tn (kh32 _ _ ?_)
            clear kh32
            refine f_seq fun K33 kh33 => ?_
            refine f_regionS rfl (by decide +kernel) ?_
            refine f_stillP rfl rfl rfl (o_move rfl) ?_
            refine f_stillP rfl rfl rfl (o_move rfl) ?_
            have hv' : v < n := by omega
            have hvi : v < inl.length := by omega
            obtain ⟨bk, ok, rfl, hSk, hck⟩ := hb (map_ne hvi)
            refine f_stillP rfl rfl rfl (o_idx sl38 rfl rfl (v) ⟨by omega, by omega, by first | omega | (simp; done) | (simp; omega)⟩) ?_
            refine f_stillP rfl rfl rfl (o_load Try.isAgg30 rfl (rdA (app_get (u64s_at (dg_at (by omega)))))) ?_
            refine f_stillP rfl rfl rfl (o_move rfl) ?_
            refine f_stillP rfl rfl rfl (o_move rfl) ?_
            refine f_stillP rfl rfl rfl (o_idx sl38 rfl rfl (v) ⟨by omega, by omega, by first | omega | (simp; done) | (simp; omega)⟩) ?_
            refine f_stillP rfl rfl rfl (o_load Try.isAgg30 rfl (rdA (app_get (u64s_at (dg_at (by omega)))))) ?_
            refine f_stillP rfl rfl rfl (o_lss rfl rfl) ?_
            refine f_stillP rfl rfl rfl (o_move rfl) ?_
            refine f_falseS 118 rfl (by have := within_ge hD hC hv'; omega) ?_
            refine f_stillPY rfl rfl rfl rfl rfl (o_move rfl) ?_
            refine f_stillPY rfl rfl rfl rfl rfl (o_move rfl) ?_
            refine f_stillPY rfl rfl rfl rfl rfl (o_idx sl41 rfl rfl (ok + v) ⟨by omega, by omega, by first | omega | (simp; done) | (simp; omega)⟩) ?_
            refine f_stillPY rfl rfl rfl rfl rfl (o_load Try.isAgg4 rfl (roOne (enc := .bool) hSk hck hvi)) ?_
            refine f_stillPY rfl rfl rfl rfl rfl (o_not rfl) ?_
            refine f_stillPY rfl rfl rfl rfl rfl (o_move rfl) ?_
            refine f_splitSB 124 rfl (fun g124 => ?_) (fun g124 => ?_)
            · skip
              refine f_stillPY rfl rfl rfl rfl rfl (o_move rfl) ?_
              refine f_stillPY rfl rfl rfl rfl rfl (o_move rfl) ?_
              refine f_stillPY rfl rfl rfl rfl rfl (o_idx sl38 rfl rfl (v) ⟨by omega, by omega, by first | omega | (simp; done) | (simp; omega)⟩) ?_
              refine f_stillPY rfl rfl rfl rfl rfl (o_load Try.isAgg30 rfl (rdA (app_get (u64s_at (dg_at (by omega)))))) ?_
              refine f_stillPY rfl rfl rfl rfl rfl (o_neq rfl rfl) ?_
              refine f_stillPY rfl rfl rfl rfl rfl (o_pickT rfl rfl) ?_
              refine f_stillP rfl rfl rfl (o_pickF rfl rfl) ?_
              refine f_stillD ?_
              refine f_tn (kh33 _ _ ?_)
              clear kh33
              refine f_condN rfl (by have := within_inf hil hC hv' (by simpa [List.getD_eq_getElem?_getD, hvi] using g124); unfold INF at this; omega) ?_
              refine f_skip ?_
              refine f_bn ?_
              refine f_tn (kh31 _ _ ?_)
              clear kh31
              refine f_region ?_
              refine f_stepP rfl rfl rfl (o_add rfl rfl _ (wrap_i64 (by omega))) ?_
              refine f_stepP rfl rfl rfl (o_move rfl) ?_
              refine f_done ?_
              refine f_tn (f_again (v + 1) (by first | omega | (dsimp only; omega) | (simp; omega)) (by omega) ?_ ?_ ?_)
              · exact (by repeat (first | exact trivial | refine ⟨rfl, ?_⟩))
              · exact (by repeat (first | exact trivial | refine ⟨rfl, ?_⟩))
              · repeat (first | exact Sub.nil | refine Sub.pick ?_ | refine Sub.castO rfl ?_ | refine Sub.skip ?_)
            · skip
              refine f_stillN rfl rfl rfl rfl rfl rfl ?_
              refine f_stillN rfl rfl rfl rfl rfl rfl ?_
              refine f_stillN rfl rfl rfl rfl rfl rfl ?_
              refine f_stillN rfl rfl rfl rfl rfl rfl ?_
              refine f_stillN rfl rfl rfl rfl rfl rfl ?_
              refine f_stillPY rfl rfl rfl rfl rfl (o_pickF rfl rfl) ?_
              refine f_stillP rfl rfl rfl (o_pickF rfl rfl) ?_
              refine f_stillD ?_
              refine f_tn (kh33 _ _ ?_)
              clear kh33
              refine f_condF rfl ?_
              refine f_skip ?_
              refine f_bn ?_
              refine f_tn (kh31 _ _ ?_)
              clear kh31
              refine f_region ?_
              refine f_stepP rfl rfl rfl (o_add rfl rfl _ (wrap_i64 (by omega))) ?_
              refine f_stepP rfl rfl rfl (o_move rfl) ?_
              refine f_done ?_
              refine f_tn (f_again (v + 1) (by first | omega | (dsimp only; omega) | (simp; omega)) (by omega) ?_ ?_ ?_)
              · exact (by repeat (first | exact trivial | refine ⟨rfl, ?_⟩))
              · exact (by repeat (first | exact trivial | refine ⟨rfl, ?_⟩))
              · repeat (first | exact Sub.nil | refine Sub.pick ?_ | refine Sub.castO rfl ?_ | refine Sub.skip ?_)
          · skip
            refine f_exit ?_
            refine f_te ?_
            clear kh30
            refine f_te ?_
            refine f_be ?_
            refine f_tn (kh27 _ _ ?_)
            clear kh27
            refine f_seq fun K34 kh34 => ?_
            refine f_region ?_
            refine f_stepP rfl rfl rfl (o_assign rfl) ?_
            refine f_done ?_
            refine f_tn (kh34 _ _ ?_)
            clear kh34
            refine f_ret ?_
            exact f_fin1 [] Try.results8 rfl Sub.nil ⟨rfl, rfl⟩

end Go.Proofs.Ytegkdbicomedjaa
