/- The document's distances: all arcs again and again. -/
import Derived.Test.YtegkdbicomedjaaFRef5
namespace Go.Proofs.Ytegkdbicomedjaa
open Go Go.RowKit Fly
set_option linter.unusedVariables false
set_option linter.unusedSimpArgs false


theorem fw_id (l : List Arc) : l.map (trn false) = l := by
  conv => rhs; rw [← List.map_id l]
  rfl
def lsum : List Int → Nat
  | [] => 0
  | x :: r => x.toNat + lsum r
theorem lsum_set : ∀ {l : List Int} {i : Nat} {x : Int}, i < l.length → 0 ≤ x → x < l.getD i 0 → lsum (l.set i x) < lsum l
  | y :: r, 0, x, _, h0, h => by simp at h; simp only [List.set_cons_zero, lsum]; omega
  | y :: r, i + 1, x, hi, h0, h => by
    have := lsum_set (l := r) (i := i) (x := x) (by simpa using hi) h0 (by simpa using h)
    simp only [List.set_cons_succ, lsum]; omega
/-- Distances that have been found so far. -/
structure BF (n : Nat) (e : List Arc) (s : Nat) (d : List Int) : Prop where
  len : d.length = n
  rng : ∀ v, v < n → 0 ≤ dg d v ∧ dg d v ≤ INF
  zero : dg d s = 0
  walk : ∀ v, v < n → dg d v < INF → Wk e every s v (dg d v)
def tight (e : List Arc) (d : List Int) (i : Nat) (h : i < e.length) : Prop := dg d e[i].dst.toNat ≤ dadd (dg d e[i].src.toNat) e[i].wt
theorem BF.begin {n s : Nat} {e : List Arc} (hs : s < n) : BF n e s (D0 n s) where
  len := by simp [D0]
  rng := fun v hv => by rw [D0_dg hs hv]; split <;> unfold INF <;> omega
  zero := by rw [D0_dg hs hs, if_pos rfl]
  walk := fun v hv h => by
    rw [D0_dg hs hv] at h ⊢
    split at h
    · rename_i e'; subst e'; rw [if_pos rfl]; exact .nil
    · exact absurd h (by omega)
theorem BF.relax {n s : Nat} {e : List Arc} {d : List Int} (h : BF n e s d) {i : Nat} (hi : i < e.length) (hs : e[i].src.toNat < n) (ht : e[i].dst.toNat < n) (hw : 0 ≤ e[i].wt) (hlt : dadd (dg d e[i].src.toNat) e[i].wt < dg d e[i].dst.toNat) :
    BF n e s (d.set e[i].dst.toNat (dadd (dg d e[i].src.toNat) e[i].wt)) ∧ lsum (d.set e[i].dst.toNat (dadd (dg d e[i].src.toNat) e[i].wt)) < lsum d := by
  have h1 := h.rng _ ht
  have h2 := h.rng _ hs
  have hadd := dadd_lt hlt h1.2
  have h0 : 0 ≤ dadd (dg d e[i].src.toNat) e[i].wt := dadd0 h2.1 hw
  have G : ∀ v, dg (d.set e[i].dst.toNat (dadd (dg d e[i].src.toNat) e[i].wt)) v = if e[i].dst.toNat = v then dadd (dg d e[i].src.toNat) e[i].wt else dg d v := fun v => dg_set (by rw [h.len]; exact ht) _ v
  refine ⟨⟨by simpa using h.len, fun v hv => ?_, ?_, fun v hv hl => ?_⟩, lsum_set (by rw [h.len]; exact ht) h0 ?_⟩
  · rw [G v]; split
    · omega
    · exact h.rng v hv
  · rw [G s]; split
    · rename_i e'; rw [e', h.zero] at hlt; omega
    · exact h.zero
  · rw [G v] at hl ⊢
    split at hl
    · rename_i e'
      subst e'
      rw [if_pos rfl, hadd]
      exact .step hi rfl (h.walk _ hs (by omega))
    · rename_i e'; rw [if_neg e']; exact h.walk v hv hl
  · have : d.getD e[i].dst.toNat 0 = dg d e[i].dst.toNat := by rw [dg_eq (by rw [h.len]; exact ht)]; simp [List.getD_eq_getElem?_getD, h.len, ht]
    rw [this]; exact hlt
theorem BF.done {n s : Nat} {e : List Arc} {d : List Int} (h : BF n e s d) (ht : ∀ i (hi : i < e.length), tight e d i hi) : IsD n e every s d where
  len := h.len
  rng := h.rng
  zero := h.zero
  arcs := fun i hi _ => Int.le_trans (ht i hi) (dadd_le _ _)
  walk := h.walk
theorem fillTo_set {N k : Nat} (h : k < N) (z x : Value) : (fillTo N k z x).set k x = fillTo N (k + 1) z x := by
  have := fillTo_next (N := N) (n := k) (m := 1) (by omega) z x
  rw [← this, List.set_eq_take_append_cons_drop, if_pos (by rw [fillTo_len (by omega)]; exact h)]
  simp
theorem fill0 (N : Nat) (z x : Value) : (List.replicate N [z]).flatten = fillTo N 0 z x := by rw [rep_flat]; simp [fillTo]
theorem nlooked_dup {N : Int} {l : List Arc} {s : Int} : nlooked N l [s, s] = nlooked N l [s] := by unfold nlooked; simp
/-- Distances as the document tells them. -/
def RDistΦ (code : Int) (n : Nat) (e : List Arc) (s : Nat) (u : Value) (own : List Seg) : Prop :=
  ∃ v m D, u = .tuple #[v, .int .i64 code] ∧ own = [m] ∧ Own 30 1 v D.length (u64s D) m ∧ (code ≠ 0 → D = []) ∧ (code = 0 → IsD n e every s D)
def CopyΦ (N : Int) (l : List Arc) (u : Value) (own : List Seg) : Prop :=
  ∃ v m, u = .agg #[.int .i64 N, v] ∧ own = [m] ∧ Own 44 3 v l.length (l.flatMap arcCs) m
theorem own_arcs {A : Option Addr} {k len cap : Nat} {o : List Arc} {m : Seg} (h : Own 44 3 (.slice A len cap) o.length (o.flatMap arcCs) m) (hk : k < o.length) :
    ∃ b sp, A = some ⟨b, 0, none⟩ ∧ m = [(b, blk (o.flatMap arcCs ++ sp) 44)] ∧ ∀ o' : List Arc, o'.length = o.length → Own 44 3 (.slice (some ⟨b, 0, none⟩) len cap) o'.length (o'.flatMap arcCs) [(b, blk (o'.flatMap arcCs ++ sp) 44)] := by
  obtain ⟨hl, h | ⟨b, c, sp, e, hm, h1, h2, h3⟩⟩ := h
  · omega
  · cases e
    exact ⟨b, sp, rfl, hm, fun o' ho => ⟨flat_length arcCs arcCs_len o', .inr ⟨b, cap, sp, by rw [ho], rfl, by omega, h2, by rw [ho]; exact h3⟩⟩⟩

set_option maxRecDepth 100000 in
set_option maxHeartbeats 4000000 in
theorem Every_spec (n : Nat) (A : Option Addr) (l : List Arc) (cap : Nat) (w : World) (hn : n ≤ 1024) :
    Meets Try.prog 45 [.agg #[.int .i64 (n : Int), .slice A l.length cap]] w [] (fun u m => ∃ b, u = .slice (some ⟨b, 0, none⟩) n n ∧ m = [[(b, blk (List.replicate n (.bool true)) 4)]]) := by
  refine f_enter Try.func45 rfl Try.ntmps45 rfl Owns.nil ?_
  refine f_seq fun K1 kh1 => ?_
  refine f_region ?_
  refine f_step rfl rfl rfl (o_box rfl rfl fun b1 => ?_)
  refine f_stepP rfl rfl rfl (o_assign rfl) ?_
  refine f_done ?_
  refine f_tn (kh1 _ _ ?_)
  clear kh1
  refine f_seq fun K2 kh2 => ?_
  refine f_region ?_
  refine f_stepP rfl rfl rfl (o_field fa24_0 rfl) ?_
  refine f_stepP rfl rfl rfl (o_load Try.isAgg3 rfl (rdA rfl)) ?_
  refine f_step rfl rfl rfl (o_make el41 rfl rfl n rfl (by omega) (by omega) (fillTo n 0 (.bool false) (.bool true)) (fill0 _ _ _) fun b7 => ?_)
  refine f_stepP rfl rfl rfl (o_assign rfl) ?_
  refine f_done ?_
  refine f_tn (kh2 _ _ ?_)
  clear kh2
  refine f_seq fun K3 kh3 => ?_
  refine f_seq fun K4 kh4 => ?_
  refine f_region ?_
  refine f_stepP rfl rfl rfl (o_assign rfl) ?_
  refine f_done ?_
  refine f_tn (kh4 _ _ ?_)
  clear kh4
  refine f_block ?_
  refine f_loop (α := Nat) [1, 3] (fun k => [(4, .int .i64 (k : Int))]) (fun k => [[(b7, blk (fillTo n k (.bool false) (.bool true)) 4)], [(b1, blk [.int .i64 (n : Int), .slice A l.length cap] 24)]]) (fun k => k ≤ n) (fun k => n - k) (0) ?_ ?_ ?_ ?_
  · exact (by repeat (first | exact trivial | refine ⟨rfl, ?_⟩))
  · repeat (first | exact Sub.nil | refine Sub.pick ?_ | refine Sub.castO rfl ?_ | refine Sub.skip ?_)
  · exact Nat.zero_le _
  · rintro k hkn
    refine f_seq fun K5 kh5 => ?_
    refine f_seq fun K6 kh6 => ?_
    refine f_region ?_
    refine f_stepP rfl rfl rfl (o_move rfl) ?_
    refine f_stepP rfl rfl rfl (o_field fa24_0 rfl) ?_
    refine f_stepP rfl rfl rfl (o_load Try.isAgg3 rfl (rdA rfl)) ?_
    refine f_stepP rfl rfl rfl (o_lss rfl rfl) ?_
    refine f_done ?_
    refine f_tn (kh6 _ _ ?_)
    clear kh6
    refine f_cond rfl (fun c11 => ?_) (fun c11 => ?_)
    · skip
      refine f_skip ?_
      refine f_tn (kh5 _ _ ?_)
      clear kh5
      refine f_seq fun K7 kh7 => ?_
      refine f_block ?_
      refine f_region ?_
      have hk : k < n := by omega
      refine f_stepP rfl rfl rfl (o_move rfl) ?_
      refine f_stepP rfl rfl rfl (o_move rfl) ?_
      refine f_stepP rfl rfl rfl (o_idx sl41 rfl rfl (k) ⟨by omega, by omega, by first | omega | (simp; done) | (simp; omega)⟩) ?_
      refine f_step0 rfl rfl (o_store Try.sizeOf4 rfl rfl rfl rfl (by rw [fillTo_len (by omega)]; omega) (fillTo n (k + 1) (.bool false) (.bool true)) (fillTo_set hk _ _) ?_)
      refine f_done ?_
      refine f_bn ?_
      refine f_tn (kh7 _ _ ?_)
      clear kh7
      refine f_region ?_
      refine f_stepP rfl rfl rfl (o_move rfl) ?_
      refine f_stepP rfl rfl rfl (o_add rfl rfl _ (wrap_i64 (by omega))) ?_
      refine f_stepP rfl rfl rfl (o_assign rfl) ?_
      refine f_done ?_
      refine f_tn (f_again (k + 1) (by first | omega | (dsimp only; omega) | (simp; omega)) (by omega) ?_ ?_ ?_)
      · exact (by repeat (first | exact trivial | refine ⟨rfl, ?_⟩))
      · exact (by repeat (first | exact trivial | refine ⟨rfl, ?_⟩))
      · repeat (first | exact Sub.nil | refine Sub.pick ?_ | refine Sub.castO rfl ?_ | refine Sub.skip ?_)
    · skip
      refine f_exit ?_
      refine f_te ?_
      clear kh5
      refine f_te ?_
      refine f_be ?_
      refine f_tn (kh3 _ _ ?_)
      clear kh3
      refine f_seq fun K8 kh8 => ?_
      refine f_region ?_
      refine f_stepP rfl rfl rfl (o_move rfl) ?_
      refine f_stepP rfl rfl rfl (o_assign rfl) ?_
      refine f_done ?_
      refine f_tn (kh8 _ _ ?_)
      clear kh8
      refine f_ret ?_
      exact f_fin1 [[(b7, blk (List.replicate n (.bool true)) 4)]] Try.results45 rfl (by rw [fillTo_all (by omega)]; exact Sub.pick Sub.nil) ⟨b7, rfl, rfl⟩

set_option maxRecDepth 100000 in
set_option maxHeartbeats 4000000 in
theorem Copy_spec (N : Int) (A : Option Addr) (l : List Arc) (cap : Nat) (w : World) (hr : Ro (Fr w []) w A (l.flatMap arcCs)) (hb : l.length ≤ 8192) :
    Meets Try.prog 60 [.agg #[.int .i64 N, .slice A l.length cap]] w [] (CopyΦ N l) := by
  refine f_enter Try.func60 rfl Try.ntmps60 rfl Owns.nil ?_
  refine f_seq fun K1 kh1 => ?_
  refine f_region ?_
  refine f_step rfl rfl rfl (o_box rfl rfl fun b1 => ?_)
  refine f_step rfl rfl rfl (o_alloc Try.zeroValue24 rfl fun b2 => ?_)
  refine f_done ?_
  refine f_tn (kh1 _ _ ?_)
  clear kh1
  refine f_seq fun K2 kh2 => ?_
  refine f_regionH [[(b1, blk [.int .i64 N, .slice A l.length cap] 24)]] rfl ?_
  refine f_take 0 rfl (by decide +kernel) rfl rfl rfl (by repeat (first | exact Sub.nil | refine Sub.pick ?_ | refine Sub.castO rfl ?_ | refine Sub.skip ?_)) (o_field fa24_0 rfl) ?_
  refine f_take 1 rfl (by decide +kernel) rfl rfl rfl (by repeat (first | exact Sub.nil | refine Sub.pick ?_ | refine Sub.castO rfl ?_ | refine Sub.skip ?_)) (o_load Try.isAgg3 rfl (rdA rfl)) ?_
  refine f_take 3 rfl (by decide +kernel) rfl rfl rfl (by repeat (first | exact Sub.nil | refine Sub.pick ?_ | refine Sub.castO rfl ?_ | refine Sub.skip ?_)) (o_field fa24_1 rfl) ?_
  refine f_take 4 rfl (by decide +kernel) rfl rfl rfl (by repeat (first | exact Sub.nil | refine Sub.pick ?_ | refine Sub.castO rfl ?_ | refine Sub.skip ?_)) (o_load Try.isAgg22 rfl (rdA rfl)) ?_
  refine f_only 2 rfl (by decide +kernel) rfl rfl rfl (o_slice0 el22 fun b5 => ⟨(by repeat (first | exact Sub.nil | refine Sub.pick ?_ | refine Sub.castO rfl ?_ | refine Sub.skip ?_)), ?_⟩)
  refine f_only 5 rfl (by decide +kernel) rfl rfl rfl (o_appendQ el22 rfl rfl (Own.mk (b := b5) (cs := []) (len := 0) rfl (by omega)) (ys := l.flatMap arcCs) (rds_ro' hr) (flat_length arcCs arcCs_len l) (arcs_one' l) (by omega) (by omega) ?_)
  rintro v8 m8 o8
  rw [Nat.zero_add, List.nil_append] at o8
  obtain ⟨A8, c8, rfl, _⟩ := o8.val
  refine ⟨(by repeat (first | exact Sub.nil | refine Sub.pick ?_ | refine Sub.castO rfl ?_ | refine Sub.skip ?_)), ?_⟩
  refine f_take 6 rfl (by decide +kernel) rfl rfl rfl (by repeat (first | exact Sub.nil | refine Sub.pick ?_ | refine Sub.castO rfl ?_ | refine Sub.skip ?_)) (o_build (cs := [.int .i64 N, .slice A8 l.length c8]) st24 rfl rfl) ?_
  refine f_only0 7 rfl (by decide +kernel) rfl rfl (o_storeA Try.sizeOf24 rfl rfl rfl rfl (by first | exact Nat.le_of_ble_eq_true rfl | (simp; done) | (simp; omega)) [.int .i64 N, .slice A8 l.length c8] rfl ⟨(by repeat (first | exact Sub.nil | refine Sub.pick ?_ | refine Sub.castO rfl ?_ | refine Sub.skip ?_)), ?_⟩)
  refine f_over (by decide +kernel) ?_
  refine f_tn (kh2 _ _ ?_)
  clear kh2
  refine f_ret ?_
  exact f_finR1 [m8] Try.results60 (rvA (vs := [.int .i64 N, .slice A8 l.length c8]) Try.isAgg24 Try.sizeOf24 rfl rfl ⟨(rdA rfl), (rdA rfl), trivial⟩) (by repeat (first | exact Sub.nil | refine Sub.pick ?_)) ⟨_, m8, rfl, rfl, o8⟩

set_option maxRecDepth 100000 in
set_option maxHeartbeats 4000000 in
theorem Turned_spec (N : Int) (A : Option Addr) (l : List Arc) (cap : Nat) (w : World) (hr : Ro (Fr w []) w A (l.flatMap arcCs)) (hb : l.length ≤ 8192) :
    Meets Try.prog 46 [.agg #[.int .i64 N, .slice A l.length cap]] w [] (CopyΦ N (l.map revArc)) := by
  refine f_enter Try.func46 rfl Try.ntmps46 rfl Owns.nil ?_
  refine f_seq fun K1 kh1 => ?_
  refine f_region ?_
  refine f_step rfl rfl rfl (o_box rfl rfl fun b1 => ?_)
  refine f_step rfl rfl rfl (o_alloc Try.zeroValue24 rfl fun b2 => ?_)
  refine f_done ?_
  refine f_tn (kh1 _ _ ?_)
  clear kh1
  refine f_seq fun K2 kh2 => ?_
  refine f_region ?_
  refine f_stepP rfl rfl rfl (o_loadA (vs := [_, _]) Try.isAgg24 Try.sizeOf24 rfl rfl ⟨(rdA rfl), (rdA rfl), trivial⟩) ?_
  refine f_step rfl rfl rfl (o_call Try.call60 rfl (fun w_ hp_ => Copy_spec N A l cap w_ (hr.up0 hp_) hb) ?_)
  rintro _ _ ⟨v6, m6, rfl, rfl, o6⟩
  obtain ⟨A6, c6, rfl, _⟩ := o6.val
  dsimp only [List.cons_append, List.nil_append]
  refine f_step rfl rfl rfl (o_alloc Try.zeroValue24 rfl fun b3 => ?_)
  refine f_step0 rfl rfl (o_storeA Try.sizeOf24 rfl rfl rfl rfl (by first | exact Nat.le_of_ble_eq_true rfl | (simp; done) | (simp; omega)) [.int .i64 N, .slice A6 l.length c6] rfl ?_)
  refine f_done ?_
  refine f_tn (kh2 _ _ ?_)
  clear kh2
  refine f_seq fun K3 kh3 => ?_
  refine f_seq fun K4 kh4 => ?_
  refine f_region ?_
  refine f_stepP rfl rfl rfl (o_assign rfl) ?_
  refine f_done ?_
  refine f_tn (kh4 _ _ ?_)
  clear kh4
  refine f_block ?_
  refine f_loop (α := Nat × List Arc × Seg) [1, 2, 3] (fun ⟨k, o, x_⟩ => [(4, .int .i64 (k : Int))]) (fun ⟨k, o, x_⟩ => [[(b3, blk [.int .i64 N, .slice A6 l.length c6] 24)], x_, [(b1, blk [.int .i64 N, .slice A l.length cap] 24)], [(b2, blk [.int .i64 0, .slice none 0 0] 24)]]) (fun ⟨k, o, x_⟩ => k ≤ l.length ∧ o.length = l.length ∧ (∀ j (a : j < o.length) (b : j < l.length), j < k → o[j] = revArc l[j]) ∧ Own 44 3 (.slice A6 l.length c6) o.length (o.flatMap arcCs) x_) (fun ⟨k, o, x_⟩ => l.length - k) (0, l, m6) ?_ ?_ ?_ ?_
  · exact (by repeat (first | exact trivial | refine ⟨rfl, ?_⟩))
  · repeat (first | exact Sub.nil | refine Sub.pick ?_ | refine Sub.castO rfl ?_ | refine Sub.skip ?_)
  · exact ⟨Nat.zero_le _, rfl, fun j _ _ h => by omega, o6⟩
  · rintro ⟨k, o, x_⟩ ⟨hkl, hol, hpre, hown⟩
    refine f_seq fun K5 kh5 => ?_
    refine f_seq fun K6 kh6 => ?_
    refine f_region ?_
    refine f_stepP rfl rfl rfl (o_move rfl) ?_
    refine f_stepP rfl rfl rfl (o_field fa24_1 rfl) ?_
    refine f_stepP rfl rfl rfl (o_load Try.isAgg22 rfl (rdA rfl)) ?_
    refine f_stepP rfl rfl rfl (o_len sl22 rfl) ?_
    refine f_stepP rfl rfl rfl (o_lss rfl rfl) ?_
    refine f_done ?_
    refine f_tn (kh6 _ _ ?_)
    clear kh6
    refine f_cond rfl (fun c11 => ?_) (fun c11 => ?_)
    · skip
      refine f_skip ?_
      refine f_tn (kh5 _ _ ?_)
      clear kh5
      refine f_seq fun K7 kh7 => ?_
      refine f_block ?_
      have hk : k < l.length := by omega
      obtain ⟨bo, sp, rfl, rfl, hput⟩ := own_arcs (k := k) hown (by omega)
      obtain ⟨bl, off, rfl, hS, hc⟩ := hr (flat_ne arcCs arcCs_len (by omega) hk)
      refine f_regionT 23 rfl (by decide +kernel) ?_
      refine f_stillP rfl rfl rfl (o_field fa24_1 rfl) ?_
      refine f_stillP rfl rfl rfl (o_load Try.isAgg22 rfl (rdA rfl)) ?_
      refine f_stillP rfl rfl rfl (o_move rfl) ?_
      refine f_stillP rfl rfl rfl (o_field fa24_1 rfl) ?_
      refine f_stillP rfl rfl rfl (o_load Try.isAgg22 rfl (rdA rfl)) ?_
      refine f_stillP rfl rfl rfl (o_move rfl) ?_
      refine f_stillP rfl rfl rfl (o_idx sl22 rfl rfl (off + k * 3) ⟨by omega, by omega, by first | omega | (simp; done) | (simp; omega)⟩) ?_
      refine f_stillP rfl rfl rfl (o_field fa44_1 rfl) ?_
      refine f_stillP rfl rfl rfl (o_load Try.isAgg3 rfl (rdS hS (by have := hc (k * 3 + 1) _ (by rw [flat_get arcCs arcCs_len l k 1 hk (by omega)]; rfl); rwa [← Nat.add_assoc] at this))) ?_
      refine f_stillP rfl rfl rfl (o_field fa24_1 rfl) ?_
      refine f_stillP rfl rfl rfl (o_load Try.isAgg22 rfl (rdA rfl)) ?_
      refine f_stillP rfl rfl rfl (o_move rfl) ?_
      refine f_stillP rfl rfl rfl (o_idx sl22 rfl rfl (off + k * 3) ⟨by omega, by omega, by first | omega | (simp; done) | (simp; omega)⟩) ?_
      refine f_stillP rfl rfl rfl (o_field fa44_0 rfl) ?_
      refine f_stillP rfl rfl rfl (o_load Try.isAgg3 rfl (rdS hS (by have := hc (k * 3 + 0) _ (by rw [flat_get arcCs arcCs_len l k 0 hk (by omega)]; rfl); rwa [← Nat.add_assoc] at this))) ?_
      refine f_stillP rfl rfl rfl (o_field fa24_1 rfl) ?_
      refine f_stillP rfl rfl rfl (o_load Try.isAgg22 rfl (rdA rfl)) ?_
      refine f_stillP rfl rfl rfl (o_move rfl) ?_
      refine f_stillP rfl rfl rfl (o_idx sl22 rfl rfl (off + k * 3) ⟨by omega, by omega, by first | omega | (simp; done) | (simp; omega)⟩) ?_
      refine f_stillP rfl rfl rfl (o_field fa44_2 rfl) ?_
      refine f_stillP rfl rfl rfl (o_load Try.isAgg42 rfl (rdS hS (by have := hc (k * 3 + 2) _ (by rw [flat_get arcCs arcCs_len l k 2 hk (by omega)]; rfl); rwa [← Nat.add_assoc] at this))) ?_
      refine f_stillP rfl rfl rfl (o_build (cs := arcCs (revArc l[k])) st44 rfl rfl) ?_
      refine f_stillP rfl rfl rfl (o_idx sl22 rfl rfl (k * 3) ⟨by omega, by omega, by first | omega | (simp; done) | (simp; omega)⟩) ?_
      refine f_stillD (f_tail ?_)
      refine f_step0 rfl rfl (o_storeA Try.sizeOf44 rfl rfl rfl rfl (by rw [List.length_append, flat_length arcCs arcCs_len, arcCs_len]; omega) ((o.set k (revArc l[k])).flatMap arcCs ++ sp) (setMany_flat arcCs_len sp o k _ (by omega)) ?_)
      refine f_done ?_
      refine f_bn ?_
      refine f_tn (kh7 _ _ ?_)
      clear kh7
      refine f_region ?_
      refine f_stepP rfl rfl rfl (o_move rfl) ?_
      refine f_stepP rfl rfl rfl (o_add rfl rfl _ (wrap_i64 (by omega))) ?_
      refine f_stepP rfl rfl rfl (o_assign rfl) ?_
      refine f_done ?_
      refine f_tn (f_again (k + 1, o.set k (revArc l[k]), [(bo, blk ((o.set k (revArc l[k])).flatMap arcCs ++ sp) 44)]) (by first | omega | (dsimp only; omega) | (simp; omega)) ⟨by omega, by simp [hol], fun j a b hj => by rw [List.getElem_set]; split; (rename_i e; subst e; rfl); exact hpre j (by simpa using a) b (by omega), hput _ (by simp)⟩ ?_ ?_ ?_)
      · exact (by repeat (first | exact trivial | refine ⟨rfl, ?_⟩))
      · exact (by repeat (first | exact trivial | refine ⟨rfl, ?_⟩))
      · repeat (first | exact Sub.nil | refine Sub.pick ?_ | refine Sub.castO rfl ?_ | refine Sub.skip ?_)
    · skip
      refine f_exit ?_
      refine f_te ?_
      clear kh5
      refine f_te ?_
      refine f_be ?_
      refine f_tn (kh3 _ _ ?_)
      clear kh3
      refine f_seq fun K8 kh8 => ?_
      refine f_region ?_
      refine f_stepP rfl rfl rfl (o_loadA (vs := [_, _]) Try.isAgg24 Try.sizeOf24 rfl rfl ⟨(rdA rfl), (rdA rfl), trivial⟩) ?_
      refine f_step0 rfl rfl (o_storeA Try.sizeOf24 rfl rfl rfl rfl (by first | exact Nat.le_of_ble_eq_true rfl | (simp; done) | (simp; omega)) [.int .i64 N, .slice A6 l.length c6] rfl ?_)
      refine f_done ?_
      refine f_tn (kh8 _ _ ?_)
      clear kh8
      refine f_ret ?_
      obtain rfl := made_done hol (by omega) hpre
      exact f_finR1 [x_] Try.results46 (rvA (vs := [.int .i64 N, .slice A6 l.length c6]) Try.isAgg24 Try.sizeOf24 rfl rfl ⟨(rdA rfl), (rdA rfl), trivial⟩) (by repeat (first | exact Sub.nil | refine Sub.pick ?_)) ⟨_, x_, rfl, rfl, by rw [List.length_map] at hown ⊢; exact hown⟩

set_option maxRecDepth 100000 in
set_option maxHeartbeats 4000000 in
theorem RDists_spec (n : Nat) (A : Option Addr) (l : List Arc) (cap : Nat) (s : Nat) (bB cb : Nat) (w : World) (hr : Ro (Fr w []) w A (l.flatMap arcCs)) (hb : Ro (Fr w []) w (some ⟨bB, 0, none⟩) (List.replicate n (.bool true))) (hg : GOk n l) (hs : s < n) :
    Meets Try.prog 44 [.agg #[.int .i64 (n : Int), .slice A l.length cap], .int .i64 (s : Int), .slice (some ⟨bB, 0, none⟩) n cb] w [] (fun u m => ∃ b D, u = .slice (some ⟨b, 0, none⟩) n n ∧ m = [[(b, blk (u64s D) 30)]] ∧ IsD n (l.map (trn false)) every s D) := by
  have hn1 := hg.n1
  have hlen := hg.len
  obtain ⟨b', o', e', hSb, hcb⟩ := hb (by simp; omega)
  obtain ⟨rfl, rfl⟩ : bB = b' ∧ 0 = o' := by cases e'; exact ⟨rfl, rfl⟩
  refine f_enter Try.func44 rfl Try.ntmps44 rfl Owns.nil ?_
  refine f_seq fun K1 kh1 => ?_
  refine f_region ?_
  refine f_step rfl rfl rfl (o_box rfl rfl fun b3 => ?_)
  refine f_stepP rfl rfl rfl (o_assign rfl) ?_
  refine f_done ?_
  refine f_tn (kh1 _ _ ?_)
  clear kh1
  refine f_seq fun K2 kh2 => ?_
  refine f_region ?_
  refine f_stepP rfl rfl rfl (o_field fa24_0 rfl) ?_
  refine f_stepP rfl rfl rfl (o_load Try.isAgg3 rfl (rdA rfl)) ?_
  refine f_step rfl rfl rfl (o_make el38 rfl rfl n rfl (by omega) (by omega) (fillTo n 0 (.int .u64 0) (.int .u64 18446744073709551615)) (fill0 _ _ _) fun b15 => ?_)
  refine f_stepP rfl rfl rfl (o_assign rfl) ?_
  refine f_done ?_
  refine f_tn (kh2 _ _ ?_)
  clear kh2
  refine f_seq fun K3 kh3 => ?_
  refine f_seq fun K4 kh4 => ?_
  refine f_region ?_
  refine f_stepP rfl rfl rfl (o_assign rfl) ?_
  refine f_done ?_
  refine f_tn (kh4 _ _ ?_)
  clear kh4
  refine f_block ?_
  refine f_loop (α := Nat) [1, 2, 3, 7] (fun k => [(8, .int .i64 (k : Int))]) (fun k => [[(b15, blk (fillTo n k (.int .u64 0) (.int .u64 18446744073709551615)) 30)], [(b3, blk [.int .i64 (n : Int), .slice A l.length cap] 24)]]) (fun k => k ≤ n) (fun k => n - k) (0) ?_ ?_ ?_ ?_
  · exact (by repeat (first | exact trivial | refine ⟨rfl, ?_⟩))
  · repeat (first | exact Sub.nil | refine Sub.pick ?_ | refine Sub.castO rfl ?_ | refine Sub.skip ?_)
  · exact Nat.zero_le _
  · rintro k hkn
    refine f_seq fun K5 kh5 => ?_
    refine f_seq fun K6 kh6 => ?_
    refine f_region ?_
    refine f_stepP rfl rfl rfl (o_move rfl) ?_
    refine f_stepP rfl rfl rfl (o_field fa24_0 rfl) ?_
    refine f_stepP rfl rfl rfl (o_load Try.isAgg3 rfl (rdA rfl)) ?_
    refine f_stepP rfl rfl rfl (o_lss rfl rfl) ?_
    refine f_done ?_
    refine f_tn (kh6 _ _ ?_)
    clear kh6
    refine f_cond rfl (fun c19 => ?_) (fun c19 => ?_)
    · skip
      refine f_skip ?_
      refine f_tn (kh5 _ _ ?_)
      clear kh5
      refine f_seq fun K7 kh7 => ?_
      refine f_block ?_
      refine f_region ?_
      have hk : k < n := by omega
      refine f_stepP rfl rfl rfl (o_move rfl) ?_
      refine f_stepP rfl rfl rfl (o_move rfl) ?_
      refine f_stepP rfl rfl rfl (o_idx sl38 rfl rfl (k) ⟨by omega, by omega, by first | omega | (simp; done) | (simp; omega)⟩) ?_
      refine f_step0 rfl rfl (o_store Try.sizeOf30 rfl rfl rfl rfl (by rw [fillTo_len (by omega)]; omega) (fillTo n (k + 1) (.int .u64 0) (.int .u64 18446744073709551615)) (fillTo_set hk _ _) ?_)
      refine f_done ?_
      refine f_bn ?_
      refine f_tn (kh7 _ _ ?_)
      clear kh7
      refine f_region ?_
      refine f_stepP rfl rfl rfl (o_move rfl) ?_
      refine f_stepP rfl rfl rfl (o_add rfl rfl _ (wrap_i64 (by omega))) ?_
      refine f_stepP rfl rfl rfl (o_assign rfl) ?_
      refine f_done ?_
      refine f_tn (f_again (k + 1) (by first | omega | (dsimp only; omega) | (simp; omega)) (by omega) ?_ ?_ ?_)
      · exact (by repeat (first | exact trivial | refine ⟨rfl, ?_⟩))
      · exact (by repeat (first | exact trivial | refine ⟨rfl, ?_⟩))
      · repeat (first | exact Sub.nil | refine Sub.pick ?_ | refine Sub.castO rfl ?_ | refine Sub.skip ?_)
    · skip
      refine f_exit ?_
      refine f_te ?_
      clear kh5
      refine f_te ?_
      refine f_be ?_
      refine f_tn (kh3 _ _ ?_)
      clear kh3
      refine f_seq fun K8 kh8 => ?_
      refine f_seq fun K9 kh9 => ?_
      refine f_region ?_
      refine f_stepP rfl rfl rfl (o_move rfl) ?_
      refine f_stepP rfl rfl rfl (o_move rfl) ?_
      refine f_stepP rfl rfl rfl (o_idx sl41 rfl rfl (0 + s) ⟨by omega, by omega, by first | omega | (simp; done) | (simp; omega)⟩) ?_
      refine f_stepP rfl rfl rfl (o_load Try.isAgg4 rfl (rdS hSb (hcb _ (.bool true) (by rw [List.getElem?_replicate, if_pos (by omega)])))) ?_
      refine f_stepP rfl rfl rfl (o_not rfl) ?_
      refine f_done ?_
      refine f_tn (kh9 _ _ ?_)
      clear kh9
      refine f_condF rfl ?_
      refine f_skip ?_
      refine f_tn (kh8 _ _ ?_)
      clear kh8
      refine f_seq fun K10 kh10 => ?_
      refine f_region ?_
      refine f_stepP rfl rfl rfl (o_move rfl) ?_
      refine f_stepP rfl rfl rfl (o_move rfl) ?_
      refine f_stepP rfl rfl rfl (o_idx sl38 rfl rfl (s) ⟨by omega, by omega, by first | omega | (simp; done) | (simp; omega)⟩) ?_
      refine f_step0 rfl rfl (o_store Try.sizeOf30 rfl rfl rfl rfl (by rw [fillTo_len (by omega)]; omega) (u64s (D0 n s)) (by rw [fillTo_all (by omega), u64s_rep]; exact u64s_set _ _ _) ?_)
      refine f_done ?_
      refine f_tn (kh10 _ _ ?_)
      clear kh10
      refine f_seq fun K11 kh11 => ?_
      refine f_seq fun K12 kh12 => ?_
      refine f_region ?_
      refine f_stepP rfl rfl rfl (o_assign rfl) ?_
      refine f_done ?_
      refine f_tn (kh12 _ _ ?_)
      clear kh12
      refine f_block ?_
      refine f_loop (α := Bool × List Int) [2, 3, 7] (fun ⟨b, d⟩ => [(9, .bool b)]) (fun ⟨b, d⟩ => [[(b15, blk (u64s d) 30)], [(b3, blk [.int .i64 (n : Int), .slice A l.length cap] 24)]]) (fun ⟨b, d⟩ => BF n l s d ∧ (b = false → ∀ i (hi : i < l.length), tight l d i hi)) (fun ⟨b, d⟩ => 2 * lsum d + (if b then 1 else 0)) (true, D0 n s) ?_ ?_ ?_ ?_
      · exact (by repeat (first | exact trivial | refine ⟨rfl, ?_⟩))
      · repeat (first | exact Sub.nil | refine Sub.pick ?_ | refine Sub.castO rfl ?_ | refine Sub.skip ?_)
      · exact ⟨BF.begin hs, fun h => by cases h⟩
      · rintro ⟨b, d⟩ ⟨hB, hbt⟩
        refine f_seq fun K13 kh13 => ?_
        refine f_seq fun K14 kh14 => ?_
        refine f_region ?_
        refine f_stepP rfl rfl rfl (o_move rfl) ?_
        refine f_done ?_
        refine f_tn (kh14 _ _ ?_)
        clear kh14
        refine f_condB rfl (fun c34 => ?_) (fun c34 => ?_)
        · skip
          refine f_skip ?_
          refine f_tn (kh13 _ _ ?_)
          clear kh13
          refine f_block ?_
          refine f_seq fun K15 kh15 => ?_
          refine f_region ?_
          refine f_stepP rfl rfl rfl (o_assign rfl) ?_
          refine f_done ?_
          refine f_tn (kh15 _ _ ?_)
          clear kh15
          refine f_seq fun K16 kh16 => ?_
          refine f_region ?_
          refine f_stepP rfl rfl rfl (o_assign rfl) ?_
          refine f_done ?_
          refine f_tn (kh16 _ _ ?_)
          clear kh16
          refine f_block ?_
          refine f_loop (α := Nat × Bool × List Int) [2, 3, 7] (fun ⟨k, b2, d2⟩ => [(10, .int .i64 (k : Int)), (9, .bool b2)]) (fun ⟨k, b2, d2⟩ => [[(b15, blk (u64s d2) 30)], [(b3, blk [.int .i64 (n : Int), .slice A l.length cap] 24)]]) (fun ⟨k, b2, d2⟩ => k ≤ l.length ∧ BF n l s d2 ∧ (b2 = false → ∀ i (hi : i < l.length), i < k → tight l d2 i hi) ∧ lsum d2 ≤ lsum d ∧ (b2 = true → lsum d2 < lsum d)) (fun ⟨k, b2, d2⟩ => l.length - k) (0, false, d) ?_ ?_ ?_ ?_
          · exact (by repeat (first | exact trivial | refine ⟨rfl, ?_⟩))
          · repeat (first | exact Sub.nil | refine Sub.pick ?_ | refine Sub.castO rfl ?_ | refine Sub.skip ?_)
          · exact ⟨Nat.zero_le _, hB, fun _ i _ h => by omega, Nat.le_refl _, fun h => by cases h⟩
          · rintro ⟨k, b2, d2⟩ ⟨hkl, hB2, ht2, hle2, hlt2⟩
            refine f_seq fun K17 kh17 => ?_
            refine f_seq fun K18 kh18 => ?_
            refine f_region ?_
            refine f_stepP rfl rfl rfl (o_move rfl) ?_
            refine f_stepP rfl rfl rfl (o_field fa24_1 rfl) ?_
            refine f_stepP rfl rfl rfl (o_load Try.isAgg22 rfl (rdA rfl)) ?_
            refine f_stepP rfl rfl rfl (o_len sl22 rfl) ?_
            refine f_stepP rfl rfl rfl (o_lss rfl rfl) ?_
            refine f_done ?_
            refine f_tn (kh18 _ _ ?_)
            clear kh18
            refine f_cond rfl (fun c39 => ?_) (fun c39 => ?_)
            · skip
              refine f_skip ?_
              refine f_tn (kh17 _ _ ?_)
              clear kh17
              refine f_seq fun K19 kh19 => ?_
              refine f_block ?_
              refine f_seq fun K20 kh20 => ?_
              refine f_region ?_
              refine f_stepP rfl rfl rfl (o_field fa24_1 rfl) ?_
              refine f_stepP rfl rfl rfl (o_load Try.isAgg22 rfl (rdA rfl)) ?_
              refine f_stepP rfl rfl rfl (o_move rfl) ?_
              have hk : k < l.length := by omega
              have hgk := hg.good k hk
              have hwk := (hg.ok _ (List.getElem_mem hk)).wt
              have h2l := hB2.len
              obtain ⟨bl, off, rfl, hS, hc⟩ := hr (flat_ne arcCs arcCs_len (by omega) hk)
              refine f_stepP rfl rfl rfl (o_idx sl22 rfl rfl (off + k * 3) ⟨by omega, by omega, by first | omega | (simp; done) | (simp; omega)⟩) ?_
              refine f_stepP rfl rfl rfl (o_loadA (vs := arcCs l[k]) Try.isAgg44 Try.sizeOf44 rfl rfl (roElem arcCs_len hS hc hk)) ?_
              refine f_step rfl rfl rfl (o_alloc Try.zeroValue44 rfl fun b11 => ?_)
              refine f_step0 rfl rfl (o_storeA Try.sizeOf44 rfl rfl rfl rfl (by first | exact Nat.le_of_ble_eq_true rfl | (simp; done) | (simp; omega)) (arcCs l[k]) rfl ?_)
              refine f_done ?_
              refine f_tn (kh20 _ _ ?_)
              clear kh20
              refine f_seq fun K21 kh21 => ?_
              refine f_regionT 8 rfl (by decide +kernel) ?_
              refine f_stillP rfl rfl rfl (o_move rfl) ?_
              refine f_stillP rfl rfl rfl (o_field fa44_0 rfl) ?_
              refine f_stillP rfl rfl rfl (o_load Try.isAgg3 rfl (rdA rfl)) ?_
              refine f_stillP rfl rfl rfl (o_idx sl38 rfl rfl (l[k].src.toNat) ⟨by omega, by omega, by first | omega | (simp; done) | (simp; omega)⟩) ?_
              refine f_stillP rfl rfl rfl (o_load Try.isAgg30 rfl (rdA (u64s_at (dg_at (by omega))))) ?_
              refine f_stillP rfl rfl rfl (o_field fa44_2 rfl) ?_
              refine f_stillP rfl rfl rfl (o_load Try.isAgg42 rfl (rdA rfl)) ?_
              refine f_stillP rfl rfl rfl (o_conv Try.runUnderlying42 Try.runUnderlying30 rfl _ (wrap_u64 (by omega))) ?_
              refine f_stillD (f_tail ?_)
              refine f_step rfl rfl rfl (o_call Try.call57 rfl (fun w_ hp_ => RAdd_spec (dg d2 l[k].src.toNat) l[k].wt w_ (hB2.rng _ (by omega)) ⟨hwk.1, by unfold INF; omega⟩) ?_)
              rintro _ _ ⟨rfl, rfl⟩
              dsimp only [List.cons_append, List.nil_append]
              refine f_stepP rfl rfl rfl (o_assign rfl) ?_
              refine f_done ?_
              refine f_tn (kh21 _ _ ?_)
              clear kh21
              refine f_seq fun K22 kh22 => ?_
              refine f_region ?_
              refine f_stepP rfl rfl rfl (o_move rfl) ?_
              refine f_stepP rfl rfl rfl (o_field fa44_0 rfl) ?_
              refine f_stepP rfl rfl rfl (o_load Try.isAgg3 rfl (rdA rfl)) ?_
              refine f_stepP rfl rfl rfl (o_idx sl41 rfl rfl (0 + l[k].src.toNat) ⟨by omega, by omega, by first | omega | (simp; done) | (simp; omega)⟩) ?_
              refine f_stepP rfl rfl rfl (o_load Try.isAgg4 rfl (rdS hSb (hcb _ (.bool true) (by rw [List.getElem?_replicate, if_pos (by omega)])))) ?_
              refine f_stepP rfl rfl rfl (o_move rfl) ?_
              refine f_splitLB 61 rfl (fun g61 => ?_) (fun g61 => ?_)
              · skip
                refine f_stepPY rfl rfl rfl rfl rfl (o_move rfl) ?_
                refine f_stepPY rfl rfl rfl rfl rfl (o_field fa44_1 rfl) ?_
                refine f_stepPY rfl rfl rfl rfl rfl (o_load Try.isAgg3 rfl (rdA rfl)) ?_
                refine f_stepPY rfl rfl rfl rfl rfl (o_idx sl41 rfl rfl (0 + l[k].dst.toNat) ⟨by omega, by omega, by first | omega | (simp; done) | (simp; omega)⟩) ?_
                refine f_stepPY rfl rfl rfl rfl rfl (o_load Try.isAgg4 rfl (rdS hSb (hcb _ (.bool true) (by rw [List.getElem?_replicate, if_pos (by omega)])))) ?_
                refine f_stepP rfl rfl rfl (o_pickT rfl rfl) ?_
                refine f_stepP rfl rfl rfl (o_move rfl) ?_
                refine f_splitLB 68 rfl (fun g68 => ?_) (fun g68 => ?_)
                · skip
                  refine f_stepPY rfl rfl rfl rfl rfl (o_move rfl) ?_
                  refine f_stepPY rfl rfl rfl rfl rfl (o_move rfl) ?_
                  refine f_stepPY rfl rfl rfl rfl rfl (o_field fa44_1 rfl) ?_
                  refine f_stepPY rfl rfl rfl rfl rfl (o_load Try.isAgg3 rfl (rdA rfl)) ?_
                  refine f_stepPY rfl rfl rfl rfl rfl (o_idx sl38 rfl rfl (l[k].dst.toNat) ⟨by omega, by omega, by first | omega | (simp; done) | (simp; omega)⟩) ?_
                  refine f_stepPY rfl rfl rfl rfl rfl (o_load Try.isAgg30 rfl (rdA (u64s_at (dg_at (by omega))))) ?_
                  refine f_stepPY rfl rfl rfl rfl rfl (o_lss rfl rfl) ?_
                  refine f_stepP rfl rfl rfl (o_pickT rfl rfl) ?_
                  refine f_done ?_
                  refine f_tn (kh22 _ _ ?_)
                  clear kh22
                  refine f_cond rfl (fun c76 => ?_) (fun c76 => ?_)
                  · skip
                    have hrx := hB2.relax hk (by omega) (by omega) hwk.1 c76
                    refine f_seq fun K23 kh23 => ?_
                    refine f_region ?_
                    refine f_stepP rfl rfl rfl (o_move rfl) ?_
                    refine f_stepP rfl rfl rfl (o_field fa44_1 rfl) ?_
                    refine f_stepP rfl rfl rfl (o_load Try.isAgg3 rfl (rdA rfl)) ?_
                    refine f_stepP rfl rfl rfl (o_move rfl) ?_
                    refine f_stepP rfl rfl rfl (o_idx sl38 rfl rfl (l[k].dst.toNat) ⟨by omega, by omega, by first | omega | (simp; done) | (simp; omega)⟩) ?_
                    refine f_step0 rfl rfl (o_store Try.sizeOf30 rfl rfl rfl rfl (by rw [u64s_length]; omega) (u64s (d2.set l[k].dst.toNat (dadd (dg d2 l[k].src.toNat) l[k].wt))) (u64s_set _ _ _) ?_)
                    refine f_done ?_
                    refine f_tn (kh23 _ _ ?_)
                    clear kh23
                    refine f_region ?_
                    refine f_stepP rfl rfl rfl (o_assign rfl) ?_
                    refine f_done ?_
                    refine f_bn ?_
                    refine f_tn (kh19 _ _ ?_)
                    clear kh19
                    refine f_region ?_
                    refine f_stepP rfl rfl rfl (o_move rfl) ?_
                    refine f_stepP rfl rfl rfl (o_add rfl rfl _ (wrap_i64 (by omega))) ?_
                    refine f_stepP rfl rfl rfl (o_assign rfl) ?_
                    refine f_done ?_
                    refine f_tn (f_again (k + 1, true, d2.set l[k].dst.toNat (dadd (dg d2 l[k].src.toNat) l[k].wt)) (by first | omega | (dsimp only; omega) | (simp; omega)) ⟨by omega, hrx.1, (fun h => by cases h), by have := hrx.2; omega, fun _ => by have := hrx.2; omega⟩ ?_ ?_ ?_)
                    · exact (by repeat (first | exact trivial | refine ⟨rfl, ?_⟩))
                    · exact (by repeat (first | exact trivial | refine ⟨rfl, ?_⟩))
                    · repeat (first | exact Sub.nil | refine Sub.pick ?_ | refine Sub.castO rfl ?_ | refine Sub.skip ?_)
                  · skip
                    refine f_skip ?_
                    refine f_bn ?_
                    refine f_tn (kh19 _ _ ?_)
                    clear kh19
                    refine f_region ?_
                    refine f_stepP rfl rfl rfl (o_move rfl) ?_
                    refine f_stepP rfl rfl rfl (o_add rfl rfl _ (wrap_i64 (by omega))) ?_
                    refine f_stepP rfl rfl rfl (o_assign rfl) ?_
                    refine f_done ?_
                    refine f_tn (f_again (k + 1, b2, d2) (by first | omega | (dsimp only; omega) | (simp; omega)) ⟨by omega, hB2, fun e i hi hik => by
                      by_cases he : i = k
                      · subst he; unfold tight; omega
                      · exact ht2 e i hi (by omega), hle2, hlt2⟩ ?_ ?_ ?_)
                    · exact (by repeat (first | exact trivial | refine ⟨rfl, ?_⟩))
                    · exact (by repeat (first | exact trivial | refine ⟨rfl, ?_⟩))
                    · repeat (first | exact Sub.nil | refine Sub.pick ?_ | refine Sub.castO rfl ?_ | refine Sub.skip ?_)
                · skip
                  cases g68 -- closed
              · skip
                cases g61 -- closed
            · skip
              refine f_exit ?_
              refine f_te ?_
              clear kh17
              refine f_te ?_
              refine f_be ?_
              refine f_bn ?_
              refine f_tn (f_again (b2, d2) (by subst c34; cases b2 <;> simp at * <;> omega) ⟨hB2, fun e i hi => ht2 e i hi (by omega)⟩ ?_ ?_ ?_)
              · exact (by repeat (first | exact trivial | refine ⟨rfl, ?_⟩))
              · exact (by repeat (first | exact trivial | refine ⟨rfl, ?_⟩))
              · repeat (first | exact Sub.nil | refine Sub.pick ?_ | refine Sub.castO rfl ?_ | refine Sub.skip ?_)
        · skip
          refine f_exit ?_
          refine f_te ?_
          clear kh13
          refine f_te ?_
          refine f_be ?_
          refine f_tn (kh11 _ _ ?_)
          clear kh11
          refine f_seq fun K24 kh24 => ?_
          refine f_region ?_
          refine f_stepP rfl rfl rfl (o_move rfl) ?_
          refine f_stepP rfl rfl rfl (o_assign rfl) ?_
          refine f_done ?_
          refine f_tn (kh24 _ _ ?_)
          clear kh24
          refine f_ret ?_
          exact f_fin1 [[(b15, blk (u64s d) 30)]] Try.results44 rfl (by repeat (first | exact Sub.nil | refine Sub.pick ?_ | refine Sub.castO rfl ?_)) ⟨b15, d, rfl, rfl, by rw [fw_id]; exact hB.done (hbt (by simpa using c34))⟩

end Go.Proofs.Ytegkdbicomedjaa
