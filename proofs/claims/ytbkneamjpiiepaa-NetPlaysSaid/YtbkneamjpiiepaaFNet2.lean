/- The net: nodes go down and up, timers. -/
import Derived.Test.YtbkneamjpiiepaaFNet
import Derived.Test.YtbkneamjpiiepaaFSortT2
import Derived.Test.YtbkneamjpiiepaaPStable2
import Derived.Test.YtbkneamjpiiepaaPGraph
namespace Go.Proofs.Ytbkneamjpiiepaa
open Go Go.RowKit Fly
set_option linter.unusedVariables false
set_option linter.unusedSimpArgs false


theorem fidx_cases {α : Type} (p : α → Bool) (l : List α) : (fidx p l = -1 ∧ ∀ x ∈ l, p x = false) ∨ ∃ k, ∃ hk : k < l.length, fidx p l = (k : Int) ∧ p l[k] = true ∧ ∀ j (h : j < l.length), j < k → p l[j] = false := by
  unfold fidx
  cases hf : l.findIdx? p with
  | none => exact .inl ⟨rfl, fun x hx => by rw [List.findIdx?_eq_none_iff] at hf; exact hf x hx⟩
  | some k =>
    rw [List.findIdx?_eq_some_iff_getElem] at hf
    obtain ⟨hk, h1, h2⟩ := hf
    exact .inr ⟨k, hk, rfl, h1, fun j h hj => by have := h2 j hj; simpa using this⟩
theorem del_start {α : Type} {p : α → Bool} {l : List α} {k : Nat} (hk : k < l.length) (h : p l[k] = true) (hpre : ∀ j (h : j < l.length), j < k → p l[j] = false) : l.take k = (l.take (k + 1)).filter (fun x => !p x) := by
  rw [List.take_succ_eq_append_getElem hk, List.filter_append]
  have e1 : (l.take k).filter (fun x => !p x) = l.take k := List.filter_eq_self.2 fun x hx => by
    obtain ⟨i, hi, rfl⟩ := List.mem_iff_getElem.1 hx
    have hi' : i < k := by simp at hi; omega
    rw [List.getElem_take, hpre i (by omega) hi']; rfl
  rw [e1]; simp [h]
theorem del_keep {α : Type} {p : α → Bool} {l d : List α} {i j : Nat} (hj : j < l.length) (hij : i < j) (hd : d.length = l.length) (ht : d.take i = (l.take j).filter (fun x => !p x)) (hdr : d.drop j = l.drop j) (h : p l[j] = false) :
    (d.set i l[j]).take (i + 1) = (l.take (j + 1)).filter (fun x => !p x) ∧ (d.set i l[j]).drop (j + 1) = l.drop (j + 1) := by
  refine ⟨?_, ?_⟩
  · rw [List.take_succ_eq_append_getElem hj, List.filter_append, ← ht, List.take_succ_eq_append_getElem (show i < (d.set i l[j]).length by simp; omega), List.getElem_set_self, List.take_set_of_le (Nat.le_refl _)]
    simp [h]
  · rw [List.drop_set_of_lt (by omega), ← List.drop_drop, ← List.drop_drop, hdr]
theorem del_skip {α : Type} {p : α → Bool} {l d : List α} {i j : Nat} (hj : j < l.length) (ht : d.take i = (l.take j).filter (fun x => !p x)) (hdr : d.drop j = l.drop j) (h : p l[j] = true) : d.take i = (l.take (j + 1)).filter (fun x => !p x) ∧ d.drop (j + 1) = l.drop (j + 1) := by
  refine ⟨?_, by rw [← List.drop_drop, ← List.drop_drop, hdr]⟩
  rw [List.take_succ_eq_append_getElem hj, List.filter_append, ← ht]; simp [h]
theorem del_at {α : Type} {l d : List α} {j : Nat} (hj : j < l.length) (hd : d.length = l.length) (hdr : d.drop j = l.drop j) : d[j]'(by omega) = l[j] := by
  have := congrArg (fun x => x[0]?) hdr
  simpa [hj, hd] using this
theorem del_zero {α : Type} {enc : α → List Value} {sz : Nat} (hs : ∀ x, (enc x).length = sz) {d : List α} {i : Nat} (hi : i ≤ d.length) (sp ys : List Value) (hy : ys.length = (d.length - i) * sz) : setMany (d.flatMap enc ++ sp) (i * sz) ys = (d.take i).flatMap enc ++ (ys ++ sp) := by
  have e : d.flatMap enc ++ sp = (d.take i).flatMap enc ++ ((d.drop i).flatMap enc ++ sp) := by rw [← List.append_assoc, ← List.flatMap_append, List.take_append_drop]
  rw [e]
  exact setMany_append ys _ _ _ _ (by rw [flat_length enc hs, List.length_take, Nat.min_eq_left hi]) (by rw [flat_length enc hs, hy, List.length_drop])
theorem heldFr {S : Nat → Prop} {w0 w w' : World} {own fr : List Seg} {b : Nat} {cs : List Value} {T : TypeId} {f : Seg → List Seg} [h : At fr b (blk cs T) f] (hp : Hp S w0 (own ++ fr).flatten w) (hs : ∀ k, Fr w own k → w'.heap[k]? = w.heap[k]?) : Ro (Fr w' []) w' (some ⟨b, 0, none⟩) cs := fun hne => by
  have hm : (b, blk cs T) ∈ (own ++ fr).flatten := by rw [List.flatten_append]; exact List.mem_append_right _ h.mem
  have hb := hp.own b _ hm
  have hlt := hp.key_lt hm
  have hn := hp.nodup
  rw [List.flatten_append, List.map_append] at hn
  have hnot : b ∉ own.flatten.map (·.1) := fun hx => (List.nodup_append.1 hn).2.2 b hx b (List.mem_map.2 ⟨_, h.mem, rfl⟩) rfl
  have hs' := hs b ⟨hlt, hnot⟩
  have hb' : w'.heap[b]? = some (blk cs T) := by rw [hs', hb]
  have hlt' : b < w'.heap.size := by
    rcases Nat.lt_or_ge b w'.heap.size with h' | h'
    · exact h'
    · rw [Array.getElem?_eq_none h'] at hb'; cases hb'
  refine ⟨b, 0, rfl, ⟨hlt', by simp⟩, fun j v hj => ?_⟩
  rw [Nat.zero_add]
  simp [World.cell?, hb', hj]

namespace NetM
def turn (A : NetM) (v : Int) (d : Bool) : Int × NetM := if A.Non v then (190, A) else if A.isDown v = d then (191, A) else (0, { A with down := A.down.set v.toNat d })
def goDown (A : NetM) (v : Int) : Int × NetM := if (A.turn v true).1 ≠ 0 then A.turn v true else (0, { (A.turn v true).2 with timers := (A.turn v true).2.timers.filter (fun t => !decide (t.1 = v)) })
def setT (A : NetM) (v at_ tag : Int) : Int × NetM :=
  if A.Non v then (190, A) else if A.isDown v then (191, A) else if at_ ≤ A.now ∨ 1073741824 < at_ then (1, A) else if 16384 ≤ A.timers.length then (2, A) else (0, { A with timers := A.timers ++ [(v, at_, tag)] })
def due (A : NetM) : List T3 := A.timers.filter fun t => decide (t.2.1 = A.now + 1)
def tick (A : NetM) : (List T3 × Int) × NetM :=
  if 1073741824 ≤ A.now then (([], 1), A) else ((byNode A.due, 0), { A with now := A.now + 1, timers := A.timers.filter fun t => !decide (t.2.1 = A.now + 1) })
end NetM
section
variable {A : NetM} {ents : List ((Int × Int) × Value × Nat)} {clk : Nat} {tv : Value} {mt G : Seg}
theorem NetAt.setDown (h : NetAt A ents clk tv mt G) (i : Nat) (d : Bool) : NetAt { A with down := A.down.set i d } ents clk tv mt G :=
  ⟨h.held, h.zero, h.full, fun k hk => by simpa [NetM.Bad, NetM.Non] using h.keyok k hk, h.mok, h.len, by simpa using h.nodes, h.tim, h.timl, h.now, by simpa using h.tno⟩
theorem NetAt.setTim (h : NetAt A ents clk tv mt G) {l : List T3} {tv' : Value} {mt' : Seg} (ho : Own 41 3 tv' l.length (l.flatMap timCs) mt') (hl : l.length ≤ 16384) (hn : ∀ t ∈ l, 0 ≤ t.1 ∧ t.1 < (A.down.length : Int)) : NetAt { A with timers := l } ents clk tv' mt' G :=
  ⟨h.held, h.zero, h.full, h.keyok, h.mok, h.len, h.nodes, ho, hl, h.now, hn⟩
theorem NetAt.setNow (h : NetAt A ents clk tv mt G) {x : Int} (hx : 0 ≤ x ∧ x ≤ 1073741824) : NetAt { A with now := x } ents clk tv mt G :=
  ⟨h.held, h.zero, h.full, h.keyok, h.mok, h.len, h.nodes, h.tim, h.timl, hx, h.tno⟩
theorem NetAt.filt (h : NetAt A ents clk tv mt G) (p : T3 → Bool) {tv' : Value} {mt' : Seg} (ho : Own 41 3 tv' (A.timers.filter p).length ((A.timers.filter p).flatMap timCs) mt') : NetAt { A with timers := A.timers.filter p } ents clk tv' mt' G :=
  h.setTim ho (Nat.le_trans (List.length_filter_le _ _) h.timl) fun t ht => h.tno t (List.mem_filter.1 ht).1
end
theorem tag_cells (l : List T3) : (tagT l).flatMap tcs = l.flatMap timCs := by
  have : (tagT l).flatMap tcs = ((tagT l).map (·.1)).flatMap timCs := by rw [List.flatMap_map]; rfl
  rw [this, tagT_fst]
theorem fst_cells (l : List TT) : l.flatMap tcs = (l.map (·.1)).flatMap timCs := by rw [List.flatMap_map]; rfl
theorem filt_next {l : List T3} {i : Nat} {p : T3 → Bool} (hi : i < l.length) : (l.take (i + 1)).filter p = (l.take i).filter p ++ if p l[i] then [l[i]] else [] := by
  rw [List.take_succ_eq_append_getElem hi, List.filter_append]; congr 1
  by_cases h : p l[i] <;> simp [h]

set_option maxRecDepth 100000 in
set_option maxHeartbeats 4000000 in
theorem delT_spec_ix (A : Option Addr) (l : List (Int × Int × Int)) (cap : Nat) (fi : FuncId) (capi : List Value) (p : (Int × Int × Int) → Bool) (w : World) (hr : Ro (Fr w []) w A (l.flatMap timCs)) (hl : l.length ≤ 1000000000)
    (hci : ∀ args w, (callFunc fi args).run Try.prog w = .ok (.enter fi args) w)
    (his : ∀ w', (∀ k, Fr w [] k → w'.heap[k]? = w.heap[k]?) → ∀ x ∈ l, Meets Try.prog fi ([.agg (timCs x).toArray] ++ capi) w' [] (fun u m => u = .bool (p x) ∧ m = [])) :
    Meets Try.prog 53 [.slice A l.length cap, .func (.func fi) #[] capi.toArray] w [] (fun u own' => u = .int .i64 (fidx p l) ∧ own' = []) := by
  refine f_enter Try.func53 rfl Try.ntmps53 rfl Owns.nil ?_
  refine f_seq fun K1 kh1 => ?_
  refine f_region ?_
  refine f_stepP rfl rfl rfl (o_assign rfl) ?_
  refine f_done ?_
  refine f_tn (kh1 _ _ ?_)
  clear kh1
  refine f_seq fun K2 kh2 => ?_
  refine f_seq fun K3 kh3 => ?_
  refine f_region ?_
  refine f_stepP rfl rfl rfl (o_move rfl) ?_
  refine f_stepP rfl rfl rfl (o_len sl36 rfl) ?_
  refine f_stepP rfl rfl rfl (o_move rfl) ?_
  refine f_done ?_
  refine f_tn (kh3 _ _ ?_)
  clear kh3
  refine f_block ?_
  refine f_loopK (α := Nat) [0, 1, 7] (fun k => [(8, .int .i64 (k : Int))]) (fun k => k ≤ l.length ∧ ∀ j (h : j < l.length), j < k → p l[j] = false) (fun k => l.length - k) (0) ?_ ?_ ?_
  · exact (by repeat (first | exact trivial | refine ⟨rfl, ?_⟩))
  · exact ⟨by omega, fun j _ h => by omega⟩
  · rintro k ⟨hkl, hpre⟩
    refine f_seq fun K4 kh4 => ?_
    refine f_region ?_
    refine f_stepP rfl rfl rfl (o_lss rfl rfl) ?_
    refine f_done ?_
    refine f_tn (kh4 _ _ ?_)
    clear kh4
    refine f_seq fun K5 kh5 => ?_
    refine f_cond rfl (fun c9 => ?_) (fun c9 => ?_)
    · skip
      refine f_skip ?_
      refine f_tn (kh5 _ _ ?_)
      clear kh5
      refine f_seq fun K6 kh6 => ?_
      refine f_block ?_
      refine f_seq fun K7 kh7 => ?_
      refine f_region ?_
      refine f_stepP rfl rfl rfl (o_move rfl) ?_
      refine f_stepP rfl rfl rfl (o_assign rfl) ?_
      refine f_done ?_
      refine f_tn (kh7 _ _ ?_)
      clear kh7
      refine f_seq fun K8 kh8 => ?_
      refine f_region ?_
      refine f_stepP rfl rfl rfl (o_move rfl) ?_
      refine f_stepP rfl rfl rfl (o_move rfl) ?_
      refine f_stepP rfl rfl rfl (o_move rfl) ?_
      have hk : k < l.length := by omega
      obtain ⟨bl, off, rfl, hS, hc⟩ := hr (flat_ne timCs timCs_len (by omega) hk)
      refine f_stepP rfl rfl rfl (o_idx sl36 rfl rfl (off + k * 3) ⟨by omega, by omega, by first | omega | (simp; done) | (simp; omega)⟩) ?_
      refine f_stepP rfl rfl rfl (o_loadA (vs := timCs l[k]) Try.isAgg41 Try.sizeOf41 rfl rfl (roElem timCs_len hS hc hk)) ?_
      refine f_step rfl rfl rfl (o_callV [] _ hci rfl rfl Sub.refl (fun w_ hp_ => (by have h := his w_ (fun j hj => hp_.same j hj) l[k] (List.getElem_mem hk); exact h)) ?_)
      rintro _ _ ⟨rfl, rfl⟩
      dsimp only [List.cons_append, List.nil_append]
      refine f_done ?_
      refine f_tn (kh8 _ _ ?_)
      clear kh8
      refine f_condB rfl (fun c16 => ?_) (fun c16 => ?_)
      · skip
        refine f_seq fun K9 kh9 => ?_
        refine f_region ?_
        refine f_stepP rfl rfl rfl (o_move rfl) ?_
        refine f_stepP rfl rfl rfl (o_assign rfl) ?_
        refine f_done ?_
        refine f_tn (kh9 _ _ ?_)
        clear kh9
        refine f_ret ?_
        refine f_br ?_
        refine f_tr ?_
        refine f_tr ?_
        refine f_br ?_
        refine f_tr ?_
        exact f_fin1 [] Try.results53 rfl Sub.nil ⟨by rw [fidx_at hk (by simpa using c16) hpre], rfl⟩
      · skip
        refine f_skip ?_
        refine f_bn ?_
        refine f_tn (kh6 _ _ ?_)
        clear kh6
        refine f_region ?_
        refine f_stepP rfl rfl rfl (o_add rfl rfl _ (wrap_i64 (by omega))) ?_
        refine f_stepP rfl rfl rfl (o_move rfl) ?_
        refine f_done ?_
        refine f_tn (f_again (k + 1) (by first | omega | (dsimp only; omega) | (simp; omega)) ⟨by omega, false_next hpre (by simpa using c16)⟩ ?_ ?_ ?_)
        · exact (by repeat (first | exact trivial | refine ⟨rfl, ?_⟩))
        · exact (by repeat (first | exact trivial | refine ⟨rfl, ?_⟩))
        · repeat (first | exact Sub.nil | refine Sub.pick ?_ | refine Sub.castO rfl ?_ | refine Sub.skip ?_)
    · skip
      refine f_exit ?_
      refine f_te ?_
      clear kh5
      refine f_te ?_
      refine f_be ?_
      refine f_tn (kh2 _ _ ?_)
      clear kh2
      refine f_seq fun K10 kh10 => ?_
      refine f_region ?_
      refine f_stepP rfl rfl rfl (o_assign rfl) ?_
      refine f_done ?_
      refine f_tn (kh10 _ _ ?_)
      clear kh10
      refine f_ret ?_
      exact f_fin1 [] Try.results53 rfl Sub.nil ⟨by rw [fidx_none (fun j h => hpre j h (by omega))], rfl⟩

set_option maxRecDepth 100000 in
set_option maxHeartbeats 4000000 in
theorem delT_spec (A : Option Addr) (l : List (Int × Int × Int)) (cap : Nat) (m : Seg) (fi : FuncId) (capi : List Value) (p : (Int × Int × Int) → Bool) (w : World) (ho : Own 41 3 (.slice A l.length cap) l.length (l.flatMap timCs) m) (hl : l.length ≤ 1000000)
    (hci : ∀ args w, (callFunc fi args).run Try.prog w = .ok (.enter fi args) w)
    (his : ∀ w', (∀ k, Fr w [m] k → w'.heap[k]? = w.heap[k]?) → ∀ x ∈ l, Meets Try.prog fi ([.agg (timCs x).toArray] ++ capi) w' [] (fun u m => u = .bool (p x) ∧ m = [])) (hw : Owns w [m]) :
    Meets Try.prog 31 [.slice A l.length cap, .func (.func fi) #[] capi.toArray] w [m] (fun u own' => ∃ m', own' = [m'] ∧ Own 41 3 u (l.filter fun x => !p x).length ((l.filter fun x => !p x).flatMap timCs) m') := by
  refine f_enter Try.func31 rfl Try.ntmps31 rfl hw ?_
  refine f_seq fun K1 kh1 => ?_
  refine f_region ?_
  refine f_stepP rfl rfl rfl (o_assign rfl) ?_
  refine f_done ?_
  refine f_tn (kh1 _ _ ?_)
  clear kh1
  refine f_seq fun K2 kh2 => ?_
  refine f_region ?_
  refine f_stepP rfl rfl rfl (o_move rfl) ?_
  refine f_stepP rfl rfl rfl (o_move rfl) ?_
  refine f_step rfl rfl rfl (o_call Try.call53 rfl (fun w_ hp_ => delT_spec_ix A l cap fi capi p w_ (seen_ro (ho.seen hp_)) (by omega) hci (fun w' hs x hx => his w' (fun j hj => by
    have hne : ¬ (Fr w_ [] j) → False := fun h => h ⟨Nat.lt_of_lt_of_le (hp_.lt j hj) hp_.size, by simp⟩
    rw [hs j (Classical.byContradiction hne)]; exact hp_.same j hj) x hx)) ?_)
  rintro _ _ ⟨rfl, rfl⟩
  dsimp only [List.cons_append, List.nil_append]
  refine f_stepP rfl rfl rfl (o_assign rfl) ?_
  refine f_done ?_
  refine f_tn (kh2 _ _ ?_)
  clear kh2
  refine f_seq fun K3 kh3 => ?_
  refine f_seq fun K4 kh4 => ?_
  refine f_region ?_
  refine f_stepP rfl rfl rfl (o_move rfl) ?_
  refine f_stepP rfl rfl rfl (o_eql rfl rfl) ?_
  refine f_done ?_
  refine f_tn (kh4 _ _ ?_)
  clear kh4
  refine f_cond rfl (fun c12 => ?_) (fun c12 => ?_)
  · skip
    have hno : ∀ x ∈ l, p x = false := by
      rcases fidx_cases p l with ⟨_, h⟩ | ⟨k, hk, h, _⟩
      · exact h
      · omega
    have hfl : (l.filter fun x => !p x) = l := List.filter_eq_self.2 fun x hx => by rw [hno x hx]; rfl
    refine f_seq fun K5 kh5 => ?_
    refine f_region ?_
    refine f_stepP rfl rfl rfl (o_move rfl) ?_
    refine f_stepP rfl rfl rfl (o_assign rfl) ?_
    refine f_done ?_
    refine f_tn (kh5 _ _ ?_)
    clear kh5
    refine f_ret ?_
    refine f_tr ?_
    exact f_fin1 [m] Try.results31 rfl (Sub.pick Sub.nil) ⟨m, rfl, by rw [hfl]; exact ho⟩
  · skip
    obtain ⟨k, hk, hfk, hpk, hpre⟩ := (fidx_cases p l).resolve_left (fun h => c12 h.1)
    rw [hfk]
    have hds := del_start hk hpk hpre
    refine f_skip ?_
    refine f_tn (kh3 _ _ ?_)
    clear kh3
    refine f_seq fun K6 kh6 => ?_
    refine f_seq fun K7 kh7 => ?_
    refine f_region ?_
    refine f_stepP rfl rfl rfl (o_move rfl) ?_
    refine f_stepP rfl rfl rfl (o_add rfl rfl _ (wrap_i64 (by omega))) ?_
    refine f_stepP rfl rfl rfl (o_assign rfl) ?_
    refine f_done ?_
    refine f_tn (kh7 _ _ ?_)
    clear kh7
    refine f_block ?_
    refine f_loop (α := Nat × Nat × List ((Int × Int × Int)) × Seg) [0, 1] (fun ⟨i, j, d, m1⟩ => [(5, .int .i64 (i : Int)), (6, .int .i64 (j : Int))]) (fun ⟨i, j, d, m1⟩ => [m1]) (fun ⟨i, j, d, m1⟩ => i < j ∧ j ≤ l.length ∧ d.length = l.length ∧ d.take i = (l.take j).filter (fun x => !p x) ∧ d.drop j = l.drop j ∧ Own 41 3 (.slice A l.length cap) l.length (d.flatMap timCs) m1) (fun ⟨i, j, d, m1⟩ => l.length - j) (k, k + 1, l, m) ?_ ?_ ?_ ?_
    · exact (by repeat (first | exact trivial | refine ⟨rfl, ?_⟩))
    · repeat (first | exact Sub.nil | refine Sub.pick ?_ | refine Sub.castO rfl ?_ | refine Sub.skip ?_)
    · exact ⟨by omega, by omega, rfl, hds, rfl, ho⟩
    · rintro ⟨i, j, d, m1⟩ ⟨hij, hjl, hdl, hdt, hdd, ho1⟩
      obtain ⟨_, _, e_, hcap⟩ := ho1.val
      cases e_
      refine f_seq fun K8 kh8 => ?_
      refine f_seq fun K9 kh9 => ?_
      refine f_region ?_
      refine f_stepP rfl rfl rfl (o_move rfl) ?_
      refine f_stepP rfl rfl rfl (o_move rfl) ?_
      refine f_stepP rfl rfl rfl (o_len sl36 rfl) ?_
      refine f_stepP rfl rfl rfl (o_lss rfl rfl) ?_
      refine f_done ?_
      refine f_tn (kh9 _ _ ?_)
      clear kh9
      refine f_cond rfl (fun c19 => ?_) (fun c19 => ?_)
      · skip
        refine f_skip ?_
        refine f_tn (kh8 _ _ ?_)
        clear kh8
        refine f_seq fun K10 kh10 => ?_
        refine f_block ?_
        refine f_seq fun K11 kh11 => ?_
        have hj' : j < l.length := by omega
        obtain ⟨b, sp, rfl, rfl, hup⟩ := ho1.upd (by omega)
        refine f_region ?_
        refine f_stepP rfl rfl rfl (o_move rfl) ?_
        refine f_stepP rfl rfl rfl (o_move rfl) ?_
        refine f_stepP rfl rfl rfl (o_idx sl36 rfl rfl (j * 3) ⟨by omega, by omega, by first | omega | (simp; done) | (simp; omega)⟩) ?_
        refine f_stepP rfl rfl rfl (o_loadA (vs := timCs l[j]) Try.isAgg41 Try.sizeOf41 rfl rfl (by rw [← del_at hj' hdl hdd]; exact rdsOwn timCs_len (by omega))) ?_
        refine f_step rfl rfl rfl (o_alloc Try.zeroValue41 rfl fun b7 => ?_)
        refine f_step0 rfl rfl (o_storeA Try.sizeOf41 rfl rfl rfl rfl (by first | exact Nat.le_of_ble_eq_true rfl | (simp; done) | (simp; omega)) (timCs l[j]) rfl ?_)
        refine f_done ?_
        refine f_tn (kh11 _ _ ?_)
        clear kh11
        refine f_seq fun K12 kh12 => ?_
        refine f_region ?_
        refine f_stepP rfl rfl rfl (o_move rfl) ?_
        refine f_stepP rfl rfl rfl (o_loadA (vs := [_, _, _]) Try.isAgg41 Try.sizeOf41 rfl rfl ⟨(rdA rfl), (rdA rfl), (rdA rfl), trivial⟩) ?_
        refine f_step rfl rfl rfl (o_callV [] _ hci rfl rfl Sub.refl (fun w_ hp_ => (by have h := his w_ (fun j hj => hp_.same j hj) l[j] (List.getElem_mem hj'); exact h)) ?_)
        rintro _ _ ⟨rfl, rfl⟩
        dsimp only [List.cons_append, List.nil_append]
        refine f_stepP rfl rfl rfl (o_not rfl) ?_
        refine f_done ?_
        refine f_tn (kh12 _ _ ?_)
        clear kh12
        refine f_condB rfl (fun c29 => ?_) (fun c29 => ?_)
        · skip
          have hpj : p l[j] = false := by simpa using c29
          refine f_seq fun K13 kh13 => ?_
          refine f_region ?_
          refine f_stepP rfl rfl rfl (o_move rfl) ?_
          refine f_stepP rfl rfl rfl (o_move rfl) ?_
          refine f_stepP rfl rfl rfl (o_loadA (vs := [_, _, _]) Try.isAgg41 Try.sizeOf41 rfl rfl ⟨(rdA rfl), (rdA rfl), (rdA rfl), trivial⟩) ?_
          refine f_stepP rfl rfl rfl (o_idx sl36 rfl rfl (i * 3) ⟨by omega, by omega, by first | omega | (simp; done) | (simp; omega)⟩) ?_
          refine f_step0 rfl rfl (o_storeA Try.sizeOf41 rfl rfl rfl rfl (by show i * 3 + 3 ≤ _; rw [List.length_append, flat_length timCs timCs_len]; omega) ((d.set i l[j]).flatMap timCs ++ sp) (setMany_flat timCs_len sp _ _ _ (by omega)) ?_)
          refine f_done ?_
          refine f_tn (kh13 _ _ ?_)
          clear kh13
          refine f_region ?_
          refine f_stepP rfl rfl rfl (o_move rfl) ?_
          refine f_stepP rfl rfl rfl (o_add rfl rfl _ (wrap_i64 (by omega))) ?_
          refine f_stepP rfl rfl rfl (o_assign rfl) ?_
          refine f_done ?_
          refine f_bn ?_
          refine f_tn (kh10 _ _ ?_)
          clear kh10
          refine f_region ?_
          refine f_stepP rfl rfl rfl (o_move rfl) ?_
          refine f_stepP rfl rfl rfl (o_add rfl rfl _ (wrap_i64 (by omega))) ?_
          refine f_stepP rfl rfl rfl (o_assign rfl) ?_
          refine f_done ?_
          refine f_tn (f_again (i + 1, j + 1, d.set i l[j], [(b, blk ((d.set i l[j]).flatMap timCs ++ sp) 41)]) (by first | omega | (dsimp only; omega) | (simp; omega)) ⟨by omega, by omega, by simpa using hdl, (del_keep hj' hij hdl hdt hdd hpj).1, (del_keep hj' hij hdl hdt hdd hpj).2, hup _ (by rw [flat_length timCs timCs_len, flat_length timCs timCs_len, List.length_set])⟩ ?_ ?_ ?_)
          · exact (by repeat (first | exact trivial | refine ⟨rfl, ?_⟩))
          · exact (by repeat (first | exact trivial | refine ⟨rfl, ?_⟩))
          · repeat (first | exact Sub.nil | refine Sub.pick ?_ | refine Sub.castO rfl ?_ | refine Sub.skip ?_)
        · skip
          have hpj : p l[j] = true := by simpa using c29
          refine f_skip ?_
          refine f_bn ?_
          refine f_tn (kh10 _ _ ?_)
          clear kh10
          refine f_region ?_
          refine f_stepP rfl rfl rfl (o_move rfl) ?_
          refine f_stepP rfl rfl rfl (o_add rfl rfl _ (wrap_i64 (by omega))) ?_
          refine f_stepP rfl rfl rfl (o_assign rfl) ?_
          refine f_done ?_
          refine f_tn (f_again (i, j + 1, d, [(b, blk (d.flatMap timCs ++ sp) 41)]) (by first | omega | (dsimp only; omega) | (simp; omega)) ⟨by omega, by omega, hdl, (del_skip hj' hdt hdd hpj).1, (del_skip hj' hdt hdd hpj).2, ho1⟩ ?_ ?_ ?_)
          · exact (by repeat (first | exact trivial | refine ⟨rfl, ?_⟩))
          · exact (by repeat (first | exact trivial | refine ⟨rfl, ?_⟩))
          · repeat (first | exact Sub.nil | refine Sub.pick ?_ | refine Sub.castO rfl ?_ | refine Sub.skip ?_)
      · skip
        refine f_exit ?_
        refine f_te ?_
        clear kh8
        refine f_te ?_
        refine f_be ?_
        refine f_tn (kh6 _ _ ?_)
        clear kh6
        refine f_seq fun K14 kh14 => ?_
        obtain ⟨b, sp, rfl, rfl, hup⟩ := ho1.upd (by omega)
        have hsp := ho1.1
        have hspl : sp.length = (cap - l.length) * 3 := by
          obtain ⟨_, h | ⟨b', c', sp', e, hm, _, _, h3⟩⟩ := ho1
          · omega
          · cases e
            have := List.append_cancel_left (Array.toList_inj.2 (show (d.flatMap timCs ++ sp).toArray = (d.flatMap timCs ++ sp').toArray by simpa using hm))
            rw [this]; exact h3
        obtain rfl : j = l.length := by omega
        rw [List.take_length] at hdt
        refine f_region ?_
        refine f_stepP rfl rfl rfl (o_move rfl) ?_
        refine f_stepP rfl rfl rfl (o_move rfl) ?_
        refine f_stepP rfl rfl rfl (o_slice sl36 rfl rfl rfl rfl (fun h => by cases h) i _ _ (.inr ⟨_, _, rfl, by omega⟩) (.inl ⟨rfl, rfl⟩) (.inl ⟨rfl, rfl⟩) ⟨by omega, by omega, by omega⟩ (.slice (some ⟨b, i * 3, none⟩) (l.length - i) (cap - i)) (by rw [if_neg (by omega)]; simp [add_at])) ?_
        refine f_step0 rfl rfl (o_clear el36 rfl rfl (by rw [List.length_append, flat_length timCs timCs_len]; omega) ((d.take i).flatMap timCs ++ ((List.replicate (l.length - i) [.int .i64 0, .int .i64 0, .int .i64 0]).flatten ++ sp)) (del_zero timCs_len (by omega) sp _ (by rw [hdl]; simp)) ?_)
        refine f_done ?_
        refine f_tn (kh14 _ _ ?_)
        clear kh14
        refine f_seq fun K15 kh15 => ?_
        refine f_region ?_
        refine f_stepP rfl rfl rfl (o_move rfl) ?_
        refine f_stepP rfl rfl rfl (o_move rfl) ?_
        refine f_stepP rfl rfl rfl (o_slice sl36 rfl rfl rfl rfl (fun h => by cases h) 0 i cap (.inl ⟨rfl, rfl⟩) (.inr ⟨_, _, rfl, by omega⟩) (.inl ⟨rfl, rfl⟩) ⟨by omega, by omega, by omega⟩ (.slice (some ⟨b, 0, none⟩) i cap) (by rw [if_neg (by omega)]; simp [add_at])) ?_
        refine f_stepP rfl rfl rfl (o_assign rfl) ?_
        refine f_done ?_
        refine f_tn (kh15 _ _ ?_)
        clear kh15
        refine f_ret ?_
        have hfl : (l.filter fun x => !p x).length = i := by rw [← hdt]; simp; omega
        exact f_fin1 [[(b, blk ((d.take i).flatMap timCs ++ ((List.replicate (l.length - i) [.int .i64 0, .int .i64 0, .int .i64 0]).flatten ++ sp)) 41)]] Try.results31 rfl (by repeat (first | exact Sub.nil | refine Sub.pick ?_)) ⟨_, rfl, by rw [hfl, ← hdt]; exact ⟨by rw [flat_length timCs timCs_len, List.length_take, Nat.min_eq_left (by omega)], .inr ⟨b, cap, _, rfl, rfl, by omega, by omega, by rw [List.length_append, hspl]; simp; omega⟩⟩⟩

set_option maxRecDepth 100000 in
set_option maxHeartbeats 4000000 in
theorem turn_spec (A : NetM) (bn : Nat) (m : Seg) (v : Int) (d : Bool) (w : World) (hN : NetRep A bn m) (ho : Owns w [m]) :
    Meets Try.prog 30 [.pointer (some ⟨bn, 0, none⟩), .int .i64 v, .bool d] w [m] (fun u own' => u = .int .i64 (A.turn v d).1 ∧ ∃ m', own' = [m'] ∧ NetRep (A.turn v d).2 bn m') := by
  refine f_enter Try.func30 rfl Try.ntmps30 rfl ho ?_
  refine f_seq fun K1 kh1 => ?_
  refine f_region ?_
  refine f_stepP rfl rfl rfl (o_assign rfl) ?_
  refine f_done ?_
  refine f_tn (kh1 _ _ ?_)
  clear kh1
  refine f_seq fun K2 kh2 => ?_
  refine f_seq fun K3 kh3 => ?_
  refine f_region ?_
  refine f_stepP rfl rfl rfl (o_move rfl) ?_
  refine f_stepP rfl rfl rfl (o_move rfl) ?_
  refine f_step rfl rfl rfl (o_callM [m] _ Try.call29 rfl (Sub.pick (Sub.refl)) (fun w_ hp_ => none_spec A bn m v w_ hN hp_.owns) ?_)
  rintro _ _ ⟨rfl, rfl⟩
  dsimp only [List.cons_append, List.nil_append]
  refine f_done ?_
  refine f_tn (kh3 _ _ ?_)
  clear kh3
  refine f_cond rfl (fun c9 => ?_) (fun c9 => ?_)
  · skip
    refine f_seq fun K4 kh4 => ?_
    refine f_region ?_
    refine f_stepP rfl rfl rfl (o_assign rfl) ?_
    refine f_done ?_
    refine f_tn (kh4 _ _ ?_)
    clear kh4
    refine f_ret ?_
    refine f_tr ?_
    have e : A.turn v d = (190, A) := if_pos c9
    exact f_fin1 [m] Try.results30 rfl (by repeat (first | exact Sub.nil | refine Sub.pick ?_)) ⟨by rw [e], m, rfl, by rw [e]; exact hN⟩
  · skip
    have hk : v.toNat < A.down.length := by unfold NetM.Non at c9; omega
    obtain ⟨bd, bm, ents, clk, tv, mt, G, hm, hA⟩ := hN
    refine f_subC (Sub.opened hm) ?_
    dsimp only [netSegs, List.cons_append, List.nil_append]
    refine f_skip ?_
    refine f_tn (kh2 _ _ ?_)
    clear kh2
    refine f_seq fun K5 kh5 => ?_
    refine f_seq fun K6 kh6 => ?_
    refine f_region ?_
    refine f_stepP rfl rfl rfl (o_move rfl) ?_
    refine f_stepP rfl rfl rfl (o_nil rfl) ?_
    refine f_stepP rfl rfl rfl (o_field fa59_0 rfl) ?_
    refine f_stepP rfl rfl rfl (o_load Try.isAgg56 rfl (rdA rfl)) ?_
    refine f_stepP rfl rfl rfl (o_move rfl) ?_
    have hnn := c9
    unfold NetM.Non at hnn
    refine f_stepP rfl rfl rfl (o_idx sl56 rfl rfl (v.toNat) ⟨by omega, by omega, by first | omega | (simp; done) | (simp; omega)⟩) ?_
    refine f_stepP rfl rfl rfl (o_load Try.isAgg4 rfl (rdA (bools_get hk))) ?_
    refine f_stepP rfl rfl rfl (o_move rfl) ?_
    refine f_stepP rfl rfl rfl (o_eqlB Try.underlying4 rfl rfl) ?_
    refine f_done ?_
    refine f_tn (kh6 _ _ ?_)
    clear kh6
    refine f_cond rfl (fun c18 => ?_) (fun c18 => ?_)
    · skip
      refine f_seq fun K7 kh7 => ?_
      refine f_region ?_
      refine f_stepP rfl rfl rfl (o_assign rfl) ?_
      refine f_done ?_
      refine f_tn (kh7 _ _ ?_)
      clear kh7
      refine f_ret ?_
      refine f_tr ?_
      have e : A.turn v d = (191, A) := by rw [NetM.turn, if_neg c9, if_pos ((down_at hk).trans c18)]
      exact f_fin1 [(netSegs A bn bd bm ents clk tv mt G).flatten] Try.results30 rfl (Sub.flat (by repeat (first | exact Sub.nil | refine Sub.pick ?_))) ⟨by rw [e], _, rfl, by rw [e]; exact NetRep.mk hA⟩
    · skip
      refine f_skip ?_
      refine f_tn (kh5 _ _ ?_)
      clear kh5
      refine f_seq fun K8 kh8 => ?_
      refine f_region ?_
      refine f_stepP rfl rfl rfl (o_move rfl) ?_
      refine f_stepP rfl rfl rfl (o_nil rfl) ?_
      refine f_stepP rfl rfl rfl (o_field fa59_0 rfl) ?_
      refine f_stepP rfl rfl rfl (o_load Try.isAgg56 rfl (rdA rfl)) ?_
      refine f_stepP rfl rfl rfl (o_move rfl) ?_
      refine f_stepP rfl rfl rfl (o_move rfl) ?_
      refine f_stepP rfl rfl rfl (o_idx sl56 rfl rfl (v.toNat) ⟨by omega, by omega, by first | omega | (simp; done) | (simp; omega)⟩) ?_
      refine f_step0 rfl rfl (o_store Try.sizeOf4 rfl rfl rfl rfl (by simp [bools]; omega) (bools (A.down.set v.toNat d)) (by simp [bools, List.map_set]) ?_)
      refine f_done ?_
      refine f_tn (kh8 _ _ ?_)
      clear kh8
      refine f_seq fun K9 kh9 => ?_
      refine f_region ?_
      refine f_stepP rfl rfl rfl (o_assign rfl) ?_
      refine f_done ?_
      refine f_tn (kh9 _ _ ?_)
      clear kh9
      refine f_ret ?_
      have e : A.turn v d = (0, { A with down := A.down.set v.toNat d }) := by rw [NetM.turn, if_neg c9, if_neg (by rw [down_at hk]; exact c18)]
      exact f_fin1 [(netSegs { A with down := A.down.set v.toNat d } bn bd bm ents clk tv mt G).flatten] Try.results30 rfl (Sub.flat (by simp only [netSegs, List.length_set]; repeat (first | exact Sub.nil | refine Sub.pick ?_))) ⟨by rw [e], _, rfl, by rw [e]; exact NetRep.mk (hA.setDown _ _)⟩

set_option maxRecDepth 100000 in
set_option maxHeartbeats 4000000 in
theorem Up_spec (A : NetM) (bn : Nat) (m : Seg) (v : Int) (w : World) (hN : NetRep A bn m) (ho : Owns w [m]) :
    Meets Try.prog 19 [.pointer (some ⟨bn, 0, none⟩), .int .i64 v] w [m] (fun u own' => u = .int .i64 (A.turn v false).1 ∧ ∃ m', own' = [m'] ∧ NetRep (A.turn v false).2 bn m') := by
  refine f_enter Try.func19 rfl Try.ntmps19 rfl ho ?_
  refine f_seq fun K1 kh1 => ?_
  refine f_region ?_
  refine f_stepP rfl rfl rfl (o_assign rfl) ?_
  refine f_done ?_
  refine f_tn (kh1 _ _ ?_)
  clear kh1
  refine f_seq fun K2 kh2 => ?_
  refine f_region ?_
  refine f_stepP rfl rfl rfl (o_move rfl) ?_
  refine f_stepP rfl rfl rfl (o_move rfl) ?_
  refine f_step rfl rfl rfl (o_callM [m] _ Try.call30 rfl (Sub.pick (Sub.refl)) (fun w_ hp_ => turn_spec A bn m v false w_ hN hp_.owns) ?_)
  rintro _ _ ⟨rfl, m', rfl, hN'⟩
  dsimp only [List.cons_append, List.nil_append]
  refine f_stepP rfl rfl rfl (o_assign rfl) ?_
  refine f_done ?_
  refine f_tn (kh2 _ _ ?_)
  clear kh2
  refine f_ret ?_
  exact f_fin1 [m'] Try.results19 rfl (by repeat (first | exact Sub.nil | refine Sub.pick ?_)) ⟨rfl, m', rfl, hN'⟩

set_option maxRecDepth 100000 in
set_option maxHeartbeats 4000000 in
theorem Down1_spec (t : T3) (b : Nat) (v : Int) (w : World) (h : Ro (Fr w []) w (some ⟨b, 0, none⟩) [.int .i64 v]) :
    Meets Try.prog 32 ([.agg (timCs t).toArray] ++ [.pointer (some ⟨b, 0, none⟩)]) w [] (fun u m => u = .bool (decide (t.1 = v)) ∧ m = []) := by
  obtain ⟨b', o', e', hSb, hcb⟩ := h (by simp)
  obtain ⟨rfl, rfl⟩ : b = b' ∧ 0 = o' := by cases e'; exact ⟨rfl, rfl⟩
  refine f_enter Try.func32 rfl Try.ntmps32 rfl Owns.nil ?_
  refine f_seq fun K1 kh1 => ?_
  refine f_region ?_
  refine f_step rfl rfl rfl (o_box rfl rfl fun b2 => ?_)
  refine f_stepP rfl rfl rfl (o_assign rfl) ?_
  refine f_done ?_
  refine f_tn (kh1 _ _ ?_)
  clear kh1
  refine f_seq fun K2 kh2 => ?_
  refine f_region ?_
  refine f_stepP rfl rfl rfl (o_field fa41_0 rfl) ?_
  refine f_stepP rfl rfl rfl (o_load Try.isAgg3 rfl (rdA (v := .int .i64 t.1) rfl)) ?_
  refine f_stepP rfl rfl rfl (o_load Try.isAgg3 rfl (rdS hSb (hcb 0 _ rfl))) ?_
  refine f_stepP rfl rfl rfl (o_eql rfl rfl) ?_
  refine f_stepP rfl rfl rfl (o_assign rfl) ?_
  refine f_done ?_
  refine f_tn (kh2 _ _ ?_)
  clear kh2
  refine f_ret ?_
  exact f_fin1 [] Try.results32 rfl Sub.nil ⟨rfl, rfl⟩

set_option maxRecDepth 100000 in
set_option maxHeartbeats 4000000 in
theorem Down_spec (A : NetM) (bn : Nat) (m : Seg) (v : Int) (w : World) (hN : NetRep A bn m) (ho : Owns w [m]) :
    Meets Try.prog 15 [.pointer (some ⟨bn, 0, none⟩), .int .i64 v] w [m] (fun u own' => u = .int .i64 (A.goDown v).1 ∧ ∃ m', own' = [m'] ∧ NetRep (A.goDown v).2 bn m') := by
  refine f_enter Try.func15 rfl Try.ntmps15 rfl ho ?_
  refine f_seq fun K1 kh1 => ?_
  refine f_region ?_
  refine f_step rfl rfl rfl (o_box rfl rfl fun b3 => ?_)
  refine f_stepP rfl rfl rfl (o_assign rfl) ?_
  refine f_done ?_
  refine f_tn (kh1 _ _ ?_)
  clear kh1
  refine f_seq fun K2 kh2 => ?_
  refine f_seq fun K3 kh3 => ?_
  refine f_region ?_
  refine f_stepP rfl rfl rfl (o_move rfl) ?_
  refine f_stepP rfl rfl rfl (o_load Try.isAgg3 rfl (rdA rfl)) ?_
  refine f_step rfl rfl rfl (o_callM [m] _ Try.call30 rfl (Sub.pick (Sub.refl)) (fun w_ hp_ => turn_spec A bn m v true w_ hN hp_.owns) ?_)
  rintro _ _ ⟨rfl, m', rfl, hN'⟩
  obtain ⟨e1, A1, hAe⟩ : ∃ e1 A1, A.turn v true = (e1, A1) := ⟨_, _, rfl⟩
  rw [hAe] at hN' ⊢
  dsimp only [List.cons_append, List.nil_append]
  refine f_stepP rfl rfl rfl (o_assign rfl) ?_
  refine f_done ?_
  refine f_tn (kh3 _ _ ?_)
  clear kh3
  refine f_seq fun K4 kh4 => ?_
  refine f_region ?_
  refine f_stepP rfl rfl rfl (o_move rfl) ?_
  refine f_stepP rfl rfl rfl (o_neq rfl rfl) ?_
  refine f_done ?_
  refine f_tn (kh4 _ _ ?_)
  clear kh4
  refine f_cond rfl (fun c10 => ?_) (fun c10 => ?_)
  · skip
    refine f_seq fun K5 kh5 => ?_
    refine f_region ?_
    refine f_stepP rfl rfl rfl (o_move rfl) ?_
    refine f_stepP rfl rfl rfl (o_assign rfl) ?_
    refine f_done ?_
    refine f_tn (kh5 _ _ ?_)
    clear kh5
    refine f_ret ?_
    refine f_tr ?_
    have e : A.goDown v = (e1, A1) := by unfold NetM.goDown; rw [hAe, if_pos c10]
    exact f_fin1 [m'] Try.results15 rfl (by repeat (first | exact Sub.nil | refine Sub.pick ?_)) ⟨by rw [e], m', rfl, by rw [e]; exact hN'⟩
  · skip
    obtain ⟨bd, bm, ents, clk, tv, mt, G, hm, hA⟩ := hN'
    refine f_subC (Sub.opened hm) ?_
    dsimp only [netSegs, List.cons_append, List.nil_append]
    obtain ⟨At_, ct, rfl, _⟩ := hA.tim.val
    have htl : A1.timers.length ≤ 16384 := hA.timl
    refine f_skip ?_
    refine f_tn (kh2 _ _ ?_)
    clear kh2
    refine f_seq fun K6 kh6 => ?_
    refine f_region ?_
    refine f_stepP rfl rfl rfl (o_move rfl) ?_
    refine f_stepP rfl rfl rfl (o_move rfl) ?_
    refine f_stepP rfl rfl rfl (o_nil rfl) ?_
    refine f_stepP rfl rfl rfl (o_field fa59_2 rfl) ?_
    refine f_stepP rfl rfl rfl (o_load Try.isAgg36 rfl (rdA rfl)) ?_
    refine f_stepP rfl rfl rfl (o_func rfl rfl) ?_
    refine f_step rfl rfl rfl (o_callM [mt] _ Try.call31 rfl (Sub.pick Sub.refl) (fun w_ hp_ => delT_spec At_ A1.timers ct mt 32 [.pointer (some ⟨b3, 0, none⟩)] (fun t => decide (t.1 = v)) w_ hA.tim (by omega) Try.call32 (fun w' hs t ht => Down1_spec t b3 v w' (heldFr (own := [mt]) hp_ hs)) hp_.owns) ?_)
    rintro v18 _ ⟨mt2, rfl, hot⟩
    obtain ⟨A18, c18, rfl, _⟩ := hot.val
    dsimp only [List.cons_append, List.nil_append]
    refine f_stepP rfl rfl rfl (o_nil rfl) ?_
    refine f_stepP rfl rfl rfl (o_field fa59_2 rfl) ?_
    refine f_step0 rfl rfl (o_store Try.sizeOf36 rfl rfl rfl rfl (by first | exact Nat.le_of_ble_eq_true rfl | (simp; done) | (simp; omega)) [.slice (some ⟨bd, 0, none⟩) A1.down.length A1.down.length, .map (some bm), .slice A18 (A1.timers.filter fun t => !decide (t.1 = v)).length c18, .int .i64 A1.now] rfl ?_)
    refine f_done ?_
    refine f_tn (kh6 _ _ ?_)
    clear kh6
    refine f_seq fun K7 kh7 => ?_
    refine f_region ?_
    refine f_stepP rfl rfl rfl (o_assign rfl) ?_
    refine f_done ?_
    refine f_tn (kh7 _ _ ?_)
    clear kh7
    refine f_ret ?_
    have e : A.goDown v = (0, { A1 with timers := A1.timers.filter (fun t => !decide (t.1 = v)) }) := by unfold NetM.goDown; rw [hAe, if_neg c10]
    exact f_fin1 [(netSegs { A1 with timers := A1.timers.filter (fun t => !decide (t.1 = v)) } bn bd bm ents clk (.slice A18 (A1.timers.filter fun t => !decide (t.1 = v)).length c18) mt2 G).flatten] Try.results15 rfl (Sub.flat (by repeat (first | exact Sub.nil | refine Sub.pick ?_))) ⟨by rw [e], _, rfl, by rw [e]; exact NetRep.mk (hA.filt _ hot)⟩

set_option maxRecDepth 100000 in
set_option maxHeartbeats 4000000 in
theorem Set_spec (A : NetM) (bn : Nat) (m : Seg) (v at_ tag : Int) (w : World) (hN : NetRep A bn m) (ho : Owns w [m]) :
    Meets Try.prog 14 [.pointer (some ⟨bn, 0, none⟩), .int .i64 v, .int .i64 at_, .int .i64 tag] w [m] (fun u own' => u = .int .i64 (A.setT v at_ tag).1 ∧ ∃ m', own' = [m'] ∧ NetRep (A.setT v at_ tag).2 bn m') := by
  refine f_enter Try.func14 rfl Try.ntmps14 rfl ho ?_
  refine f_seq fun K1 kh1 => ?_
  refine f_region ?_
  refine f_stepP rfl rfl rfl (o_assign rfl) ?_
  refine f_done ?_
  refine f_tn (kh1 _ _ ?_)
  clear kh1
  refine f_seq fun K2 kh2 => ?_
  refine f_block ?_
  refine f_seq fun K3 kh3 => ?_
  refine f_region ?_
  refine f_stepP rfl rfl rfl (o_move rfl) ?_
  refine f_stepP rfl rfl rfl (o_move rfl) ?_
  refine f_step rfl rfl rfl (o_callM [m] _ Try.call29 rfl (Sub.pick (Sub.refl)) (fun w_ hp_ => none_spec A bn m v w_ hN hp_.owns) ?_)
  rintro _ _ ⟨rfl, rfl⟩
  dsimp only [List.cons_append, List.nil_append]
  refine f_stepP rfl rfl rfl (o_assign rfl) ?_
  refine f_done ?_
  refine f_tn (kh3 _ _ ?_)
  clear kh3
  refine f_cond rfl (fun c9 => ?_) (fun c9 => ?_)
  · skip
    refine f_seq fun K4 kh4 => ?_
    refine f_region ?_
    refine f_stepP rfl rfl rfl (o_assign rfl) ?_
    refine f_done ?_
    refine f_tn (kh4 _ _ ?_)
    clear kh4
    refine f_ret ?_
    refine f_br ?_
    refine f_tr ?_
    have e : A.setT v at_ tag = (190, A) := if_pos c9
    exact f_fin1 [m] Try.results14 rfl (by repeat (first | exact Sub.nil | refine Sub.pick ?_)) ⟨by rw [e], m, rfl, by rw [e]; exact hN⟩
  · skip
    have hk : v.toNat < A.down.length := by unfold NetM.Non at c9; omega
    obtain ⟨bd, bm, ents, clk, tv, mt, G, hm, hA⟩ := hN
    refine f_subC (Sub.opened hm) ?_
    dsimp only [netSegs, List.cons_append, List.nil_append]
    obtain ⟨At_, ct, rfl, _⟩ := hA.tim.val
    have htl := hA.timl
    refine f_seq fun K5 kh5 => ?_
    refine f_region ?_
    refine f_stepP rfl rfl rfl (o_move rfl) ?_
    refine f_stepP rfl rfl rfl (o_nil rfl) ?_
    refine f_stepP rfl rfl rfl (o_field fa59_0 rfl) ?_
    refine f_stepP rfl rfl rfl (o_load Try.isAgg56 rfl (rdA rfl)) ?_
    refine f_stepP rfl rfl rfl (o_move rfl) ?_
    have hnn := c9
    unfold NetM.Non at hnn
    refine f_stepP rfl rfl rfl (o_idx sl56 rfl rfl (v.toNat) ⟨by omega, by omega, by first | omega | (simp; done) | (simp; omega)⟩) ?_
    refine f_stepP rfl rfl rfl (o_load Try.isAgg4 rfl (rdA (bools_get hk))) ?_
    refine f_stepP rfl rfl rfl (o_assign rfl) ?_
    refine f_done ?_
    refine f_tn (kh5 _ _ ?_)
    clear kh5
    refine f_condB rfl (fun c13 => ?_) (fun c13 => ?_)
    · skip
      refine f_seq fun K6 kh6 => ?_
      refine f_region ?_
      refine f_stepP rfl rfl rfl (o_assign rfl) ?_
      refine f_done ?_
      refine f_tn (kh6 _ _ ?_)
      clear kh6
      refine f_ret ?_
      refine f_br ?_
      refine f_tr ?_
      have e : A.setT v at_ tag = (191, A) := by rw [NetM.setT, if_neg c9, if_pos ((down_at hk).trans c13)]
      exact f_fin1 [(netSegs A bn bd bm ents clk (.slice At_ A.timers.length ct) mt G).flatten] Try.results14 rfl (Sub.flat (by repeat (first | exact Sub.nil | refine Sub.pick ?_))) ⟨by rw [e], _, rfl, by rw [e]; exact NetRep.mk hA⟩
    · skip
      refine f_seq fun K7 kh7 => ?_
      refine f_region ?_
      refine f_stepP rfl rfl rfl (o_move rfl) ?_
      refine f_stepP rfl rfl rfl (o_move rfl) ?_
      refine f_stepP rfl rfl rfl (o_nil rfl) ?_
      refine f_stepP rfl rfl rfl (o_field fa59_3 rfl) ?_
      refine f_stepP rfl rfl rfl (o_load Try.isAgg3 rfl (rdA rfl)) ?_
      refine f_stepP rfl rfl rfl (o_leq rfl rfl) ?_
      refine f_stepP rfl rfl rfl (o_move rfl) ?_
      refine f_splitL 28 rfl (fun g28 => ?_) (fun g28 => ?_)
      · skip
        refine f_stepN rfl rfl rfl rfl rfl rfl ?_
        refine f_stepN rfl rfl rfl rfl rfl rfl ?_
        refine f_stepP rfl rfl rfl (o_pickT rfl rfl) ?_
        refine f_stepP rfl rfl rfl (o_assign rfl) ?_
        refine f_done ?_
        refine f_tn (kh7 _ _ ?_)
        clear kh7
        refine f_condT rfl ?_
        refine f_seq fun K8 kh8 => ?_
        refine f_region ?_
        refine f_stepP rfl rfl rfl (o_assign rfl) ?_
        refine f_done ?_
        refine f_tn (kh8 _ _ ?_)
        clear kh8
        refine f_ret ?_
        refine f_br ?_
        refine f_tr ?_
        have e : A.setT v at_ tag = (1, A) := by rw [NetM.setT, if_neg c9, if_neg (by rw [down_at hk, c13]; decide), if_pos (by omega)]
        exact f_fin1 [(netSegs A bn bd bm ents clk (.slice At_ A.timers.length ct) mt G).flatten] Try.results14 rfl (Sub.flat (by repeat (first | exact Sub.nil | refine Sub.pick ?_))) ⟨by rw [e], _, rfl, by rw [e]; exact NetRep.mk hA⟩
      · skip
        refine f_stepPY rfl rfl rfl rfl rfl (o_move rfl) ?_
        refine f_stepPY rfl rfl rfl rfl rfl (o_gtr rfl rfl) ?_
        refine f_stepP rfl rfl rfl (o_pickF rfl rfl) ?_
        refine f_stepP rfl rfl rfl (o_assign rfl) ?_
        refine f_done ?_
        refine f_tn (kh7 _ _ ?_)
        clear kh7
        refine f_cond rfl (fun c21 => ?_) (fun c21 => ?_)
        · skip
          refine f_seq fun K9 kh9 => ?_
          refine f_region ?_
          refine f_stepP rfl rfl rfl (o_assign rfl) ?_
          refine f_done ?_
          refine f_tn (kh9 _ _ ?_)
          clear kh9
          refine f_ret ?_
          refine f_br ?_
          refine f_tr ?_
          have e : A.setT v at_ tag = (1, A) := by rw [NetM.setT, if_neg c9, if_neg (by rw [down_at hk, c13]; decide), if_pos (by omega)]
          exact f_fin1 [(netSegs A bn bd bm ents clk (.slice At_ A.timers.length ct) mt G).flatten] Try.results14 rfl (Sub.flat (by repeat (first | exact Sub.nil | refine Sub.pick ?_))) ⟨by rw [e], _, rfl, by rw [e]; exact NetRep.mk hA⟩
        · skip
          refine f_seq fun K10 kh10 => ?_
          refine f_region ?_
          refine f_stepP rfl rfl rfl (o_move rfl) ?_
          refine f_stepP rfl rfl rfl (o_nil rfl) ?_
          refine f_stepP rfl rfl rfl (o_field fa59_2 rfl) ?_
          refine f_stepP rfl rfl rfl (o_load Try.isAgg36 rfl (rdA rfl)) ?_
          refine f_stepP rfl rfl rfl (o_len sl36 rfl) ?_
          refine f_stepP rfl rfl rfl (o_geq rfl rfl) ?_
          refine f_stepP rfl rfl rfl (o_assign rfl) ?_
          refine f_done ?_
          refine f_tn (kh10 _ _ ?_)
          clear kh10
          refine f_cond rfl (fun c32 => ?_) (fun c32 => ?_)
          · skip
            refine f_seq fun K11 kh11 => ?_
            refine f_region ?_
            refine f_stepP rfl rfl rfl (o_assign rfl) ?_
            refine f_done ?_
            refine f_tn (kh11 _ _ ?_)
            clear kh11
            refine f_ret ?_
            refine f_br ?_
            refine f_tr ?_
            have e : A.setT v at_ tag = (2, A) := by rw [NetM.setT, if_neg c9, if_neg (by rw [down_at hk, c13]; decide), if_neg (by omega), if_pos (by omega)]
            exact f_fin1 [(netSegs A bn bd bm ents clk (.slice At_ A.timers.length ct) mt G).flatten] Try.results14 rfl (Sub.flat (by repeat (first | exact Sub.nil | refine Sub.pick ?_))) ⟨by rw [e], _, rfl, by rw [e]; exact NetRep.mk hA⟩
          · skip
            refine f_skip ?_
            refine f_bn ?_
            refine f_tn (kh2 _ _ ?_)
            clear kh2
            refine f_seq fun K12 kh12 => ?_
            refine f_region ?_
            refine f_stepP rfl rfl rfl (o_move rfl) ?_
            refine f_stepP rfl rfl rfl (o_move rfl) ?_
            refine f_stepP rfl rfl rfl (o_nil rfl) ?_
            refine f_stepP rfl rfl rfl (o_field fa59_2 rfl) ?_
            refine f_stepP rfl rfl rfl (o_load Try.isAgg36 rfl (rdA rfl)) ?_
            refine f_stepP rfl rfl rfl (o_move rfl) ?_
            refine f_stepP rfl rfl rfl (o_move rfl) ?_
            refine f_stepP rfl rfl rfl (o_move rfl) ?_
            refine f_stepP rfl rfl rfl (o_build (cs := timCs (v, at_, tag)) st41 rfl rfl) ?_
            refine f_step rfl rfl rfl (o_slice1 el36 (by omega) rfl rfl rfl fun b48 => ?_)
            refine f_step rfl rfl rfl (o_append el36 rfl rfl hA.tim (ys := (timCs (v, at_, tag))) ⟨(rdA rfl), (rdA rfl), (rdA rfl), trivial⟩ rfl rfl (by omega) (by omega) fun v49 m49 o49 => ?_)
            obtain ⟨A49, c49, rfl, _⟩ := o49.val
            refine f_stepP rfl rfl rfl (o_nil rfl) ?_
            refine f_stepP rfl rfl rfl (o_field fa59_2 rfl) ?_
            refine f_step0 rfl rfl (o_store Try.sizeOf36 rfl rfl rfl rfl (by first | exact Nat.le_of_ble_eq_true rfl | (simp; done) | (simp; omega)) [.slice (some ⟨bd, 0, none⟩) A.down.length A.down.length, .map (some bm), .slice A49 (A.timers.length + 1) c49, .int .i64 A.now] rfl ?_)
            refine f_done ?_
            refine f_tn (kh12 _ _ ?_)
            clear kh12
            refine f_seq fun K13 kh13 => ?_
            refine f_region ?_
            refine f_stepP rfl rfl rfl (o_assign rfl) ?_
            refine f_done ?_
            refine f_tn (kh13 _ _ ?_)
            clear kh13
            refine f_ret ?_
            have e : A.setT v at_ tag = (0, { A with timers := A.timers ++ [(v, at_, tag)] }) := by rw [NetM.setT, if_neg c9, if_neg (by rw [down_at hk, c13]; decide), if_neg (by omega), if_neg (by omega)]
            exact f_fin1 [(netSegs { A with timers := A.timers ++ [(v, at_, tag)] } bn bd bm ents clk (.slice A49 (A.timers.length + 1) c49) m49 G).flatten] Try.results14 rfl (Sub.flat (by repeat (first | exact Sub.nil | refine Sub.pick ?_))) ⟨by rw [e], _, rfl, by rw [e]; exact NetRep.mk (hA.setTim (by rw [List.length_append, List.flatMap_append]; simpa using o49) (by rw [List.length_append]; simp; omega) (fun t ht => by rcases List.mem_append.1 ht with h | h; exact hA.tno t h; simp at h; subst h; exact ⟨by omega, by omega⟩))⟩

set_option maxRecDepth 100000 in
set_option maxHeartbeats 4000000 in
theorem Tick1_spec (t : T3) (b bn : Nat) (x y z : Value) (now : Int) (w : World) (h : Ro (Fr w []) w (some ⟨b, 0, none⟩) [.pointer (some ⟨bn, 0, none⟩)]) (h2 : Ro (Fr w []) w (some ⟨bn, 0, none⟩) [x, y, z, .int .i64 now]) :
    Meets Try.prog 33 ([.agg (timCs t).toArray] ++ [.pointer (some ⟨b, 0, none⟩)]) w [] (fun u m => u = .bool (decide (t.2.1 = now)) ∧ m = []) := by
  obtain ⟨b', o', e', hSb, hcb⟩ := h (by simp)
  obtain ⟨rfl, rfl⟩ : b = b' ∧ 0 = o' := by cases e'; exact ⟨rfl, rfl⟩
  obtain ⟨b', o', e', hSn, hcn⟩ := h2 (by simp)
  obtain ⟨rfl, rfl⟩ : bn = b' ∧ 0 = o' := by cases e'; exact ⟨rfl, rfl⟩
  refine f_enter Try.func33 rfl Try.ntmps33 rfl Owns.nil ?_
  refine f_seq fun K1 kh1 => ?_
  refine f_region ?_
  refine f_step rfl rfl rfl (o_box rfl rfl fun b2 => ?_)
  refine f_stepP rfl rfl rfl (o_assign rfl) ?_
  refine f_done ?_
  refine f_tn (kh1 _ _ ?_)
  clear kh1
  refine f_seq fun K2 kh2 => ?_
  refine f_regionT 7 rfl (by decide +kernel) ?_
  refine f_stillP rfl rfl rfl (o_field fa41_1 rfl) ?_
  refine f_stillP rfl rfl rfl (o_load Try.isAgg3 rfl (rdA (v := .int .i64 t.2.1) rfl)) ?_
  refine f_stillP rfl rfl rfl (o_load Try.isAgg22 rfl (rdS hSb (hcb 0 _ rfl))) ?_
  refine f_stillP rfl rfl rfl (o_nil rfl) ?_
  refine f_stillP rfl rfl rfl (o_field fa59_3 rfl) ?_
  refine f_stillP rfl rfl rfl (o_load Try.isAgg3 rfl (rdS hSn (hcn 3 _ rfl))) ?_
  refine f_stillP rfl rfl rfl (o_eql rfl rfl) ?_
  refine f_stillD (f_tail ?_)
  refine f_stepP rfl rfl rfl (o_assign rfl) ?_
  refine f_done ?_
  refine f_tn (kh2 _ _ ?_)
  clear kh2
  refine f_ret ?_
  exact f_fin1 [] Try.results33 rfl Sub.nil ⟨rfl, rfl⟩

set_option maxRecDepth 100000 in
set_option maxHeartbeats 4000000 in
theorem Now_spec (A : NetM) (bn : Nat) (m : Seg) (w : World) (hN : NetRep A bn m) (ho : Owns w [m]) :
    Meets Try.prog 17 [.pointer (some ⟨bn, 0, none⟩)] w [m] (fun u own' => u = .int .i64 A.now ∧ own' = [m]) := by
  refine f_enter Try.func17 rfl Try.ntmps17 rfl ho ?_
  obtain ⟨bd, bm, ents, clk, tv, mt, G, hm, hA⟩ := hN
  refine f_subC (Sub.of_perm hm) ?_
  refine f_seq fun K1 kh1 => ?_
  refine f_region ?_
  refine f_stepP rfl rfl rfl (o_assign rfl) ?_
  refine f_done ?_
  refine f_tn (kh1 _ _ ?_)
  clear kh1
  refine f_seq fun K2 kh2 => ?_
  refine f_region ?_
  refine f_stepP rfl rfl rfl (o_move rfl) ?_
  refine f_stepP rfl rfl rfl (o_nil rfl) ?_
  refine f_stepP rfl rfl rfl (o_field fa59_3 rfl) ?_
  refine f_stepP rfl rfl rfl (o_load Try.isAgg3 rfl (rdA rfl)) ?_
  refine f_stepP rfl rfl rfl (o_assign rfl) ?_
  refine f_done ?_
  refine f_tn (kh2 _ _ ?_)
  clear kh2
  refine f_ret ?_
  exact f_fin1 [m] Try.results17 rfl ⟨[], by simpa using hm.symm⟩ ⟨rfl, rfl⟩

set_option maxRecDepth 100000 in
set_option maxHeartbeats 4000000 in
theorem Tick_spec (A : NetM) (bn : Nat) (m : Seg) (w : World) (hN : NetRep A bn m) (ho : Owns w [m]) :
    Meets Try.prog 16 [.pointer (some ⟨bn, 0, none⟩)] w [m] (fun u own' => ∃ s ms m', u = .tuple #[s, .int .i64 A.tick.1.2] ∧ own' = [m', ms] ∧ NetRep A.tick.2 bn m' ∧ Own 41 3 s A.tick.1.1.length (A.tick.1.1.flatMap timCs) ms) := by
  refine f_enter Try.func16 rfl Try.ntmps16 rfl ho ?_
  obtain ⟨bd, bm, ents, clk, tv, mt, G, hm, hA⟩ := hN
  refine f_subC (Sub.of_perm hm) ?_
  unfold netSegs
  obtain ⟨At_, ct, rfl, hct⟩ := hA.tim.val
  have htl := hA.timl
  have hnow := hA.now
  have hnd := hA.nodes
  refine f_seq fun K1 kh1 => ?_
  refine f_region ?_
  refine f_step rfl rfl rfl (o_box rfl rfl fun b1 => ?_)
  refine f_stepP rfl rfl rfl (o_assign rfl) ?_
  refine f_stepP rfl rfl rfl (o_assign rfl) ?_
  refine f_done ?_
  refine f_tn (kh1 _ _ ?_)
  clear kh1
  refine f_seq fun K2 kh2 => ?_
  refine f_seq fun K3 kh3 => ?_
  refine f_region ?_
  refine f_stepP rfl rfl rfl (o_load Try.isAgg22 rfl (rdA rfl)) ?_
  refine f_stepP rfl rfl rfl (o_nil rfl) ?_
  refine f_stepP rfl rfl rfl (o_field fa59_3 rfl) ?_
  refine f_stepP rfl rfl rfl (o_load Try.isAgg3 rfl (rdA rfl)) ?_
  refine f_stepP rfl rfl rfl (o_geq rfl rfl) ?_
  refine f_done ?_
  refine f_tn (kh3 _ _ ?_)
  clear kh3
  refine f_cond rfl (fun c11 => ?_) (fun c11 => ?_)
  · skip
    refine f_seq fun K4 kh4 => ?_
    refine f_region ?_
    refine f_stepP rfl rfl rfl (o_assign rfl) ?_
    refine f_stepP rfl rfl rfl (o_assign rfl) ?_
    refine f_done ?_
    refine f_tn (kh4 _ _ ?_)
    clear kh4
    refine f_ret ?_
    refine f_tr ?_
    have e : A.tick = (([], 1), A) := if_pos (by omega)
    exact f_fin2 [(netSegs A bn bd bm ents clk (.slice At_ A.timers.length ct) mt G).flatten, []] Try.results16 rfl rfl (Sub.trans (Sub.flat (by repeat (first | exact Sub.nil | refine Sub.pick ?_))) Sub.addNil2) ⟨_, _, _, by rw [e], rfl, by rw [e]; exact NetRep.mk hA, by rw [e]; exact Own.nil _ _⟩
  · skip
    refine f_skip ?_
    refine f_tn (kh2 _ _ ?_)
    clear kh2
    refine f_seq fun K5 kh5 => ?_
    refine f_region ?_
    refine f_stepP rfl rfl rfl (o_load Try.isAgg22 rfl (rdA rfl)) ?_
    refine f_stepP rfl rfl rfl (o_nil rfl) ?_
    refine f_stepP rfl rfl rfl (o_field fa59_3 rfl) ?_
    refine f_stepP rfl rfl rfl (o_load Try.isAgg3 rfl (rdA rfl)) ?_
    refine f_stepP rfl rfl rfl (o_add rfl rfl _ (wrap_i64 (by omega))) ?_
    refine f_stepP rfl rfl rfl (o_nil rfl) ?_
    refine f_stepP rfl rfl rfl (o_field fa59_3 rfl) ?_
    refine f_step0 rfl rfl (o_store Try.sizeOf3 rfl rfl rfl rfl (by first | exact Nat.le_of_ble_eq_true rfl | (simp; done) | (simp; omega)) [.slice (some ⟨bd, 0, none⟩) A.down.length A.down.length, .map (some bm), .slice At_ A.timers.length ct, .int .i64 (A.now + 1)] rfl ?_)
    refine f_done ?_
    refine f_tn (kh5 _ _ ?_)
    clear kh5
    refine f_seq fun K6 kh6 => ?_
    refine f_region ?_
    refine f_stepP rfl rfl rfl (o_assign rfl) ?_
    refine f_done ?_
    refine f_tn (kh6 _ _ ?_)
    clear kh6
    refine f_seq fun K7 kh7 => ?_
    refine f_seq fun K8 kh8 => ?_
    refine f_region ?_
    refine f_stepP rfl rfl rfl (o_load Try.isAgg22 rfl (rdA rfl)) ?_
    refine f_stepP rfl rfl rfl (o_nil rfl) ?_
    refine f_stepP rfl rfl rfl (o_field fa59_2 rfl) ?_
    refine f_stepP rfl rfl rfl (o_load Try.isAgg36 rfl (rdA rfl)) ?_
    refine f_stepP rfl rfl rfl (o_len sl36 rfl) ?_
    refine f_stepP rfl rfl rfl (o_move rfl) ?_
    refine f_done ?_
    refine f_tn (kh8 _ _ ?_)
    clear kh8
    refine f_block ?_
    refine f_loop (α := Nat × Value × Seg) [1, 22, 23] (fun ⟨i, dv, dm⟩ => [(24, .int .i64 (i : Int)), (4, dv)]) (fun ⟨i, dv, dm⟩ => [[(b1, blk [.pointer (some ⟨bn, 0, none⟩)] 22)], [(bn, blk [.slice (some ⟨bd, 0, none⟩) A.down.length A.down.length, .map (some bm), .slice At_ A.timers.length ct, .int .i64 (A.now + 1)] 59)], [(bd, blk (bools A.down) 4)], [(bm, mobj enc2 ents clk)], mt, G, dm]) (fun ⟨i, dv, dm⟩ => i ≤ A.timers.length ∧ Own 41 3 dv ((A.timers.take i).filter fun t => decide (t.2.1 = A.now + 1)).length (((A.timers.take i).filter fun t => decide (t.2.1 = A.now + 1)).flatMap timCs) dm) (fun ⟨i, dv, dm⟩ => A.timers.length - i) (0, .slice none 0 0, []) ?_ ?_ ?_ ?_
    · exact (by repeat (first | exact trivial | refine ⟨rfl, ?_⟩))
    · repeat (first | exact Sub.nil | refine Sub.pick ?_ | refine Sub.castO rfl ?_ | refine Sub.skip ?_)
    · exact ⟨Nat.zero_le _, Own.nil _ _⟩
    · rintro ⟨i, dv, dm⟩ ⟨hil, hD⟩
      obtain ⟨Ad, cd, rfl, _⟩ := hD.val
      have hdl : ((A.timers.take i).filter fun t => decide (t.2.1 = A.now + 1)).length ≤ i := Nat.le_trans (List.length_filter_le _ _) (by simp; omega)
      refine f_seq fun K9 kh9 => ?_
      refine f_region ?_
      refine f_stepP rfl rfl rfl (o_lss rfl rfl) ?_
      refine f_done ?_
      refine f_tn (kh9 _ _ ?_)
      clear kh9
      refine f_seq fun K10 kh10 => ?_
      refine f_cond rfl (fun c25 => ?_) (fun c25 => ?_)
      · skip
        refine f_skip ?_
        refine f_tn (kh10 _ _ ?_)
        clear kh10
        refine f_seq fun K11 kh11 => ?_
        refine f_block ?_
        refine f_seq fun K12 kh12 => ?_
        refine f_region ?_
        have hi : i < A.timers.length := by omega
        obtain ⟨bt, spt, rfl, rfl⟩ := hA.tim.at_ (by omega)
        refine f_stepP rfl rfl rfl (o_idx sl36 rfl rfl (i * 3) ⟨by omega, by omega, by first | omega | (simp; done) | (simp; omega)⟩) ?_
        refine f_stepP rfl rfl rfl (o_loadA (vs := timCs A.timers[i]) Try.isAgg41 Try.sizeOf41 rfl rfl (rdsOwn timCs_len hi)) ?_
        refine f_step rfl rfl rfl (o_alloc Try.zeroValue41 rfl fun b6 => ?_)
        refine f_step0 rfl rfl (o_storeA Try.sizeOf41 rfl rfl rfl rfl (by first | exact Nat.le_of_ble_eq_true rfl | (simp; done) | (simp; omega)) (timCs A.timers[i]) rfl ?_)
        refine f_done ?_
        refine f_tn (kh12 _ _ ?_)
        clear kh12
        refine f_seq fun K13 kh13 => ?_
        refine f_regionS rfl (by decide +kernel) ?_
        refine f_stillP rfl rfl rfl (o_field fa41_1 rfl) ?_
        refine f_stillP rfl rfl rfl (o_load Try.isAgg3 rfl (rdA (v := .int .i64 A.timers[i].2.1) rfl)) ?_
        refine f_stillP rfl rfl rfl (o_load Try.isAgg22 rfl (rdA rfl)) ?_
        refine f_stillP rfl rfl rfl (o_nil rfl) ?_
        refine f_stillP rfl rfl rfl (o_field fa59_3 rfl) ?_
        refine f_stillP rfl rfl rfl (o_load Try.isAgg3 rfl (rdA rfl)) ?_
        refine f_stillP rfl rfl rfl (o_eql rfl rfl) ?_
        refine f_stillD ?_
        refine f_tn (kh13 _ _ ?_)
        clear kh13
        refine f_cond rfl (fun c34 => ?_) (fun c34 => ?_)
        · skip
          refine f_region ?_
          refine f_stepP rfl rfl rfl (o_move rfl) ?_
          refine f_stepP rfl rfl rfl (o_loadA (vs := [_, _, _]) Try.isAgg41 Try.sizeOf41 rfl rfl ⟨(rdA rfl), (rdA rfl), (rdA rfl), trivial⟩) ?_
          refine f_step rfl rfl rfl (o_slice1 el36 (by omega) rfl rfl rfl fun b37 => ?_)
          refine f_step rfl rfl rfl (o_append el36 rfl rfl hD (ys := (timCs A.timers[i])) ⟨(rdA rfl), (rdA rfl), (rdA rfl), trivial⟩ rfl rfl (by omega) (by omega) fun v38 m38 o38 => ?_)
          refine f_stepP rfl rfl rfl (o_assign rfl) ?_
          refine f_done ?_
          refine f_bn ?_
          refine f_tn (kh11 _ _ ?_)
          clear kh11
          refine f_region ?_
          refine f_stepP rfl rfl rfl (o_add rfl rfl _ (wrap_i64 (by omega))) ?_
          refine f_stepP rfl rfl rfl (o_move rfl) ?_
          refine f_done ?_
          refine f_tn (f_again (i + 1, v38, m38) (by first | omega | (dsimp only; omega) | (simp; omega)) ⟨by omega, by rw [filt_next hi, if_pos (by simpa using c34), List.length_append, List.flatMap_append]; simpa using o38⟩ ?_ ?_ ?_)
          · exact (by repeat (first | exact trivial | refine ⟨rfl, ?_⟩))
          · exact (by repeat (first | exact trivial | refine ⟨rfl, ?_⟩))
          · repeat (first | exact Sub.nil | refine Sub.pick ?_ | refine Sub.castO rfl ?_ | refine Sub.skip ?_)
        · skip
          refine f_skip ?_
          refine f_bn ?_
          refine f_tn (kh11 _ _ ?_)
          clear kh11
          refine f_region ?_
          refine f_stepP rfl rfl rfl (o_add rfl rfl _ (wrap_i64 (by omega))) ?_
          refine f_stepP rfl rfl rfl (o_move rfl) ?_
          refine f_done ?_
          refine f_tn (f_again (i + 1, .slice Ad ((A.timers.take i).filter fun t => decide (t.2.1 = A.now + 1)).length cd, dm) (by first | omega | (dsimp only; omega) | (simp; omega)) ⟨by omega, by rw [filt_next hi, if_neg (by simpa using c34), List.append_nil]; exact hD⟩ ?_ ?_ ?_)
          · exact (by repeat (first | exact trivial | refine ⟨rfl, ?_⟩))
          · exact (by repeat (first | exact trivial | refine ⟨rfl, ?_⟩))
          · repeat (first | exact Sub.nil | refine Sub.pick ?_ | refine Sub.castO rfl ?_ | refine Sub.skip ?_)
      · skip
        refine f_exit ?_
        refine f_te ?_
        clear kh10
        refine f_te ?_
        refine f_be ?_
        refine f_tn (kh7 _ _ ?_)
        clear kh7
        refine f_seq fun K14 kh14 => ?_
        refine f_regionH [[(b1, blk [.pointer (some ⟨bn, 0, none⟩)] 22)]] rfl ?_
        refine f_take 0 rfl (by decide +kernel) rfl rfl rfl (by repeat (first | exact Sub.nil | refine Sub.pick ?_ | refine Sub.castO rfl ?_ | refine Sub.skip ?_)) (o_load Try.isAgg22 rfl (rdA rfl)) ?_
        refine f_take 1 rfl (by decide +kernel) rfl rfl rfl (by repeat (first | exact Sub.nil | refine Sub.pick ?_ | refine Sub.castO rfl ?_ | refine Sub.skip ?_)) (o_load Try.isAgg22 rfl (rdA rfl)) ?_
        refine f_take 2 rfl (by decide +kernel) rfl rfl rfl (by repeat (first | exact Sub.nil | refine Sub.pick ?_ | refine Sub.castO rfl ?_ | refine Sub.skip ?_)) (o_nil rfl) ?_
        refine f_take 3 rfl (by decide +kernel) rfl rfl rfl (by repeat (first | exact Sub.nil | refine Sub.pick ?_ | refine Sub.castO rfl ?_ | refine Sub.skip ?_)) (o_field fa59_2 rfl) ?_
        refine f_take 5 rfl (by decide +kernel) rfl rfl rfl (by repeat (first | exact Sub.nil | refine Sub.pick ?_ | refine Sub.castO rfl ?_ | refine Sub.skip ?_)) (o_func rfl rfl) ?_
        refine f_only 4 rfl (by decide +kernel) rfl rfl rfl ((o_load Try.isAgg36 rfl (rdA rfl)).does ⟨(by repeat (first | exact Sub.nil | refine Sub.pick ?_ | refine Sub.castO rfl ?_ | refine Sub.skip ?_)), ?_⟩)
        refine f_only 6 rfl (by decide +kernel) rfl rfl rfl (o_callM [mt] _ Try.call31 rfl (by repeat (first | exact Sub.refl | refine Sub.pick ?_)) (fun w_ hp_ => delT_spec At_ A.timers ct mt 33 [.pointer (some ⟨b1, 0, none⟩)] (fun t => decide (t.2.1 = A.now + 1)) w_ hA.tim (by omega) Try.call33 (fun w' hs t ht => Tick1_spec t b1 bn _ _ _ _ w' (heldFr (own := [mt]) hp_ hs) (heldFr (own := [mt]) hp_ hs)) hp_.owns) ?_)
        rintro v46 _ ⟨mt2, rfl, hot⟩
        obtain ⟨A46, c46, rfl, _⟩ := hot.val
        dsimp only [List.cons_append, List.nil_append]
        refine ⟨(by repeat (first | exact Sub.nil | refine Sub.pick ?_ | refine Sub.castO rfl ?_ | refine Sub.skip ?_)), ?_⟩
        refine f_take 7 rfl (by decide +kernel) rfl rfl rfl (by repeat (first | exact Sub.nil | refine Sub.pick ?_ | refine Sub.castO rfl ?_ | refine Sub.skip ?_)) (o_nil rfl) ?_
        refine f_take 8 rfl (by decide +kernel) rfl rfl rfl (by repeat (first | exact Sub.nil | refine Sub.pick ?_ | refine Sub.castO rfl ?_ | refine Sub.skip ?_)) (o_field fa59_2 rfl) ?_
        refine f_only0 9 rfl (by decide +kernel) rfl rfl (o_store Try.sizeOf36 rfl rfl rfl rfl (by first | exact Nat.le_of_ble_eq_true rfl | (simp; done) | (simp; omega)) [.slice (some ⟨bd, 0, none⟩) A.down.length A.down.length, .map (some bm), .slice A46 (A.timers.filter fun t => !decide (t.2.1 = A.now + 1)).length c46, .int .i64 (A.now + 1)] rfl ⟨(by repeat (first | exact Sub.nil | refine Sub.pick ?_ | refine Sub.castO rfl ?_ | refine Sub.skip ?_)), ?_⟩)
        refine f_over (by decide +kernel) ?_
        refine f_tn (kh14 _ _ ?_)
        clear kh14
        refine f_seq fun K15 kh15 => ?_
        obtain rfl : i = A.timers.length := by omega
        rw [List.take_length] at hD hdl ⊢
        have hdue : A.due.length ≤ 16384 := by
          have : A.due.length ≤ A.timers.length := List.length_filter_le _ _
          omega
        have hdn : ∀ t ∈ A.due, 0 ≤ t.1 ∧ t.1 < 65 := fun t ht => by have := hA.tno t (List.mem_filter.1 ht).1; omega
        have hkok : KOk (tagT A.due) := fun j hj => by
          rw [tagT_len] at hj
          rw [tagT_el hj]
          have := hdn _ (List.getElem_mem hj)
          exact ⟨this.1, by show A.due[j].1 ≤ 64; omega⟩
        refine f_region ?_
        refine f_stepP rfl rfl rfl (o_move rfl) ?_
        refine f_step rfl rfl rfl (o_callM [dm] _ Try.call34 rfl (Sub.pick Sub.refl) (fun w_ hp_ => (by have h := sortStable_spec A.due.length cd Ad (tagT A.due) dm w_ (by omega) (by show Own _ _ _ _ _ _; rw [tag_cells]; exact hD) hkok (tagT_tags A.due) hp_.owns; exact h)) ?_)
        rintro _ _ ⟨l2, dm2, rfl, rfl, hpm, hsi, hod⟩
        dsimp only [List.cons_append, List.nil_append]
        refine f_done ?_
        refine f_tn (kh15 _ _ ?_)
        clear kh15
        refine f_seq fun K16 kh16 => ?_
        refine f_region ?_
        refine f_stepP rfl rfl rfl (o_move rfl) ?_
        refine f_stepP rfl rfl rfl (o_assign rfl) ?_
        refine f_stepP rfl rfl rfl (o_assign rfl) ?_
        refine f_done ?_
        refine f_tn (kh16 _ _ ?_)
        clear kh16
        refine f_ret ?_
        have e : A.tick = ((byNode A.due, 0), { A with now := A.now + 1, timers := A.timers.filter fun t => !decide (t.2.1 = A.now + 1) }) := if_neg (by omega)
        have hll : l2.length = A.due.length := by rw [hpm.length_eq, tagT_len]
        have hres := stable_is hdn hpm (by have := hsi; rw [← hll] at this; exact this.all_pair)
        have hbl : (byNode A.due).length = A.due.length := (byNode_len hdn).length_eq
        rw [e]
        exact f_fin2 [(netSegs { A with now := A.now + 1, timers := A.timers.filter fun t => !decide (t.2.1 = A.now + 1) } bn bd bm ents clk (.slice A46 (A.timers.filter fun t => !decide (t.2.1 = A.now + 1)).length c46) mt2 G).flatten, dm2] Try.results16 rfl rfl (Sub.flat2 (by repeat (first | exact Sub.nil | refine Sub.pick ?_))) ⟨_, dm2, _, rfl, rfl, NetRep.mk ((hA.filt _ hot).setNow (by omega)), by rw [hbl, ← hres, ← fst_cells]; exact hod⟩

end Go.Proofs.Ytbkneamjpiiepaa
