/- graph.Change and graph.Weigh: other weights. -/
import Derived.Test.YthbkeoejbendnaaFGraph
import Derived.Test.YthbkeoejbendnaaFBook
import Derived.Test.YthbkeoejbendnaaPParts
namespace Go.Proofs.Ythbkeoejbendnaa
open Go Go.RowKit Fly
set_option linter.unusedVariables false
set_option linter.unusedSimpArgs false


/-- A change: an arc, a weight. -/
structure Chg where
  arc : Int
  wt : Int
def chgCs (x : Chg) : List Value := [.int .i64 x.arc, .int .u32 x.wt]
theorem chgCs_len (x : Chg) : (chgCs x).length = 2 := rfl
structure ChgOk (x : Chg) : Prop where
  arc : I64 x.arc
  wt : 0 ≤ x.wt ∧ x.wt ≤ 4294967295
def chgBad (n : Nat) (x : Chg) : Bool := decide (x.arc < 0) || decide ((n : Int) ≤ x.arc)
def reweigh (x : Arc) (w : Int) : Arc := ⟨x.src, x.dst, w⟩
/-- One change. -/
def chg1 (l : List Arc) (c : Chg) : List Arc := match l[c.arc.toNat]? with
  | some x => l.set c.arc.toNat (reweigh x c.wt)
  | none => l
def chg (l : List Arc) (cs : List Chg) : List Arc := cs.foldl chg1 l
theorem chg1_len (l : List Arc) (c : Chg) : (chg1 l c).length = l.length := by unfold chg1; split <;> simp
theorem chg_len (cs : List Chg) : ∀ l : List Arc, (chg l cs).length = l.length := by
  induction cs with
  | nil => exact fun l => rfl
  | cons c cs ih => intro l; show (chg (chg1 l c) cs).length = _; rw [ih, chg1_len]
theorem chg_take {l : List Arc} {cs : List Chg} {i : Nat} (h : i < cs.length) : chg l (cs.take (i + 1)) = chg1 (chg l (cs.take i)) cs[i] := by
  unfold chg; rw [List.take_succ_eq_append_getElem h, List.foldl_append]; rfl
theorem chg1_set {l : List Arc} {c : Chg} {k : Nat} (hk : k < l.length) (e : c.arc.toNat = k) : chg1 l c = l.set k (reweigh l[k] c.wt) := by
  subst e; unfold chg1; rw [List.getElem?_eq_getElem hk]
/-- The weights, one behind the other. -/
def weigh (l : List Arc) (ws : List Int) : List Arc := List.zipWith reweigh l ws
theorem weigh_len {l : List Arc} {ws : List Int} (h : ws.length = l.length) : (weigh l ws).length = l.length := by simp [weigh, h]
/-- As far as they have been laid. -/
def weighTo (l : List Arc) (ws : List Int) (i : Nat) : List Arc := weigh (l.take i) (ws.take i) ++ l.drop i
theorem weighTo_len {l : List Arc} {ws : List Int} {i : Nat} (h : ws.length = l.length) (hi : i ≤ l.length) : (weighTo l ws i).length = l.length := by
  simp [weighTo, weigh, h]; omega
theorem weighTo_get {l : List Arc} {ws : List Int} {i : Nat} (h : ws.length = l.length) (hi : i < l.length) (hj : i < (weighTo l ws i).length) : (weighTo l ws i)[i] = l[i] := by
  have e : (weigh (l.take i) (ws.take i)).length = i := by simp [weigh, h]; omega
  simp only [weighTo]
  rw [List.getElem_append_right (by omega)]
  simp [e]
theorem weighTo_next {l : List Arc} {ws : List Int} {i : Nat} (h : ws.length = l.length) (hi : i < l.length) (hw : i < ws.length) : (weighTo l ws i).set i (reweigh l[i] ws[i]) = weighTo l ws (i + 1) := by
  have e : (weigh (l.take i) (ws.take i)).length = i := by simp [weigh, h]; omega
  unfold weighTo
  rw [List.set_append_right _ _ (by omega), e, Nat.sub_self, List.drop_eq_getElem_cons hi, List.set_cons_zero, List.take_succ_eq_append_getElem hi, List.take_succ_eq_append_getElem hw]
  unfold weigh
  rw [List.zipWith_append (by simp; omega)]
  simp
theorem weighTo_all {l : List Arc} {ws : List Int} {i : Nat} (h : ws.length = l.length) (hi : l.length ≤ i) : weighTo l ws i = weigh l ws := by
  unfold weighTo; rw [List.take_of_length_le hi, List.take_of_length_le (by omega), List.drop_eq_nil_of_le hi, List.append_nil]
def changeR (N : Int) (l : List Arc) (cs : List Chg) : Int × List Arc × Int :=
  if (gcheck N l).2 ≠ 0 then (0, [], (gcheck N l).2) else if 16384 < cs.length then (0, [], 2) else if cs.any (chgBad l.length) = true then (0, [], 5) else (N, chg l cs, 0)
def weighR (N : Int) (l : List Arc) (ws : List Int) : Int × List Arc × Int :=
  if (gcheck N l).2 ≠ 0 then (0, [], (gcheck N l).2) else if ws.length ≠ l.length then (0, [], 4) else (N, weigh l ws, 0)
/-- A graph that is told, in new memory, and how it went. -/
def GraphΦ (r : Int × List Arc × Int) (u : Value) (own : List Seg) : Prop :=
  ∃ s m, u = .tuple #[.agg #[.int .i64 r.1, s], .int .i64 r.2.2] ∧ own = [m] ∧ Own 34 3 s r.2.1.length (r.2.1.flatMap arcCs) m
theorem graphΦ_mk {r : Int × List Arc × Int} {n e : Int} {L : List Arc} {s : Value} {m : Seg} {k : Nat} (h : r = (n, L, e)) (hk : k = L.length) (ho : Own 34 3 s k (L.flatMap arcCs) m) : GraphΦ r (.tuple #[.agg #[.int .i64 n, s], .int .i64 e]) [m] := by
  subst h; subst hk; exact ⟨s, m, rfl, rfl, ho⟩
/-! ### one behind the other -/
theorem chg1_ends (l : List Arc) (c : Chg) (k : Nat) (h : k < l.length) (h' : k < (chg1 l c).length) : (chg1 l c)[k].src = l[k].src ∧ (chg1 l c)[k].dst = l[k].dst := by
  by_cases hc : c.arc.toNat < l.length
  · have e := chg1_set hc rfl
    rw [List.getElem_of_eq e h', List.getElem_set]
    split
    · rename_i e'; subst e'; exact ⟨rfl, rfl⟩
    · exact ⟨rfl, rfl⟩
  · have e : chg1 l c = l := by unfold chg1; rw [List.getElem?_eq_none (by omega)]
    rw [List.getElem_of_eq e h']; exact ⟨rfl, rfl⟩
theorem chg_ends (cs : List Chg) : ∀ (l : List Arc) (k : Nat) (h : k < l.length) (h' : k < (chg l cs).length), (chg l cs)[k].src = l[k].src ∧ (chg l cs)[k].dst = l[k].dst := by
  induction cs with
  | nil => exact fun l k h h' => ⟨rfl, rfl⟩
  | cons c cs ih =>
    intro l k h h'
    have h1 : k < (chg1 l c).length := by rw [chg1_len]; exact h
    have e := ih (chg1 l c) k h1 (by rw [chg_len]; exact h1)
    have e1 := chg1_ends l c k h h1
    exact ⟨e.1.trans e1.1, e.2.trans e1.2⟩
theorem gcheck_same {N : Int} {l r : List Arc} (hl : r.length = l.length) (h : ∀ (k : Nat) (h : k < l.length) (h' : k < r.length), r[k].src = l[k].src ∧ r[k].dst = l[k].dst) (h0 : (gcheck N l).2 = 0) : gcheck N r = (0, 0) := by
  obtain ⟨h1, h2, h3, hg⟩ := gcheck_zero h0
  refine gcheck_ok ⟨h1, h2⟩ (by omega) fun j hj => ?_
  obtain ⟨a, b, c, d⟩ := hg j (by omega)
  obtain ⟨e1, e2⟩ := h j (by omega) hj
  unfold arcBad; simp; omega
theorem chg_ok {cs : List Chg} (hc : ∀ c ∈ cs, ChgOk c) : ∀ {l : List Arc}, (∀ x ∈ l, ArcOk x) → ∀ x ∈ chg l cs, ArcOk x := by
  induction cs with
  | nil => exact fun h => h
  | cons c cs ih =>
    intro l h
    refine ih (fun d hd => hc d (List.mem_cons_of_mem _ hd)) ?_
    intro x hx
    unfold chg1 at hx
    split at hx
    · rename_i y hy
      rcases List.mem_or_eq_of_mem_set hx with h' | rfl
      · exact h x h'
      · have hy' := h y (List.mem_of_getElem? hy)
        exact ⟨hy'.src, hy'.dst, (hc c (List.mem_cons_self ..)).wt⟩
    · exact h x hx
theorem change_ok {N : Int} {l : List Arc} {a : List Chg} (h : (changeR N l a).2.2 = 0) : (gcheck N l).2 = 0 ∧ a.length ≤ 16384 ∧ a.any (chgBad l.length) = false ∧ changeR N l a = (N, chg l a, 0) := by
  unfold changeR at h ⊢
  split at h
  · rename_i h1; exact absurd h h1
  · split at h
    · simp at h
    · split at h
      · simp at h
      · rename_i h1 h2 h3
        exact ⟨by simpa using h1, by omega, by simpa using h3, by rw [if_neg h1, if_neg h2, if_neg h3]⟩
theorem change_bad {N : Int} {l : List Arc} {a : List Chg} (h : (changeR N l a).2.2 ≠ 0) : (changeR N l a).2.1 = [] := by
  unfold changeR at h ⊢
  split
  · rfl
  · split
    · rfl
    · split
      · rfl
      · rename_i h1 h2 h3; rw [if_neg h1, if_neg h2, if_neg h3] at h; exact absurd rfl h
theorem change_two {N : Int} {l : List Arc} {a b : List Chg} (h : (changeR N l a).2.2 = 0) (hab : a.length + b.length ≤ 16384) : changeR N (chg l a) b = changeR N l (a ++ b) := by
  obtain ⟨h1, h2, h3, _⟩ := change_ok h
  have hg := gcheck_same (chg_len a l) (fun k hk hk' => chg_ends a l k hk hk') h1
  have e1 : changeR N (chg l a) b = if b.any (chgBad l.length) = true then (0, [], 5) else (N, chg (chg l a) b, 0) := by
    unfold changeR; rw [hg, if_neg (by simp), if_neg (by omega), chg_len]
  have e2 : changeR N l (a ++ b) = if b.any (chgBad l.length) = true then (0, [], 5) else (N, chg l (a ++ b), 0) := by
    unfold changeR; rw [if_neg (by simpa using h1), if_neg (by rw [List.length_append]; omega), List.any_append, h3, Bool.false_or]
  rw [e1, e2]
  unfold chg; rw [List.foldl_append]
theorem weigh_back {N : Int} {l : List Arc} {a : List Chg} (h : (gcheck N l).2 = 0) : weighR N (chg l a) (l.map Arc.wt) = (N, l, 0) := by
  have hg := gcheck_same (chg_len a l) (fun k hk hk' => chg_ends a l k hk hk') h
  unfold weighR
  rw [hg, if_neg (by simp), if_neg (by rw [List.length_map, chg_len]; simp)]
  congr 2
  refine List.ext_getElem (by simp [weigh, chg_len]) fun k h1 h2 => ?_
  have e := chg_ends a l k h2 (by rw [chg_len]; exact h2)
  simp only [weigh, List.getElem_zipWith, List.getElem_map, reweigh]
  rw [e.1, e.2]
theorem arcs_one (l : List Arc) : (l.flatMap arcCs).all (·.oneCell') = true := by
  induction l with
  | nil => rfl
  | cons x l ih => rw [List.flatMap_cons, List.all_append, ih]; rfl

set_option maxRecDepth 100000 in
set_option maxHeartbeats 4000000 in
theorem CloneA_spec (A : Option Addr) (len : Nat) (cs : List Value) (cap : Nat) (w : World) (hs : Ro (Fr w []) w A cs) (hn : A = none → len = 0) (hl : cs.length = len * 3) (hone : cs.all (·.oneCell') = true) (hmax : len ≤ 1000000000) :
    Meets Try.prog 36 [.slice A len cap] w [] (fun u own' => ∃ m, own' = [m] ∧ Own 34 3 u len cs m) := by
  refine f_enter Try.func36 rfl Try.ntmps36 rfl Owns.nil ?_
  refine f_seq fun K1 kh1 => ?_
  refine f_region ?_
  refine f_stepP rfl rfl rfl (o_assign rfl) ?_
  refine f_done ?_
  refine f_tn (kh1 _ _ ?_)
  clear kh1
  refine f_seq fun K2 kh2 => ?_
  refine f_seq fun K3 kh3 => ?_
  refine f_region ?_
  refine f_stepP rfl rfl rfl (o_move rfl) ?_
  refine f_stepP rfl rfl rfl (o_eqlSl Try.underlying22 rfl rfl) ?_
  refine f_done ?_
  refine f_tn (kh3 _ _ ?_)
  clear kh3
  refine f_condB rfl (fun c4 => ?_) (fun c4 => ?_)
  · skip
    obtain rfl : A = none := by cases A <;> first | rfl | simp at c4
    obtain rfl : len = 0 := hn rfl
    obtain rfl : cs = [] := List.eq_nil_of_length_eq_zero (by simpa using hl)
    refine f_seq fun K4 kh4 => ?_
    refine f_region ?_
    refine f_stepP rfl rfl rfl (o_assign rfl) ?_
    refine f_done ?_
    refine f_tn (kh4 _ _ ?_)
    clear kh4
    refine f_ret ?_
    refine f_tr ?_
    exact f_fin1 [[]] Try.results36 rfl Sub.empty ⟨[], rfl, Own.nil _ _⟩
  · skip
    refine f_skip ?_
    refine f_tn (kh2 _ _ ?_)
    clear kh2
    refine f_seq fun K5 kh5 => ?_
    refine f_region ?_
    refine f_step rfl rfl rfl (o_slice0 el22 fun b5 => ?_)
    refine f_stepP rfl rfl rfl (o_move rfl) ?_
    refine f_step rfl rfl rfl (o_appendQ el22 rfl rfl (Own.mk (b := b5) (cs := []) (len := 0) rfl (by omega)) (ys := cs) (fun hne => by obtain ⟨b, off, e, hS, hc⟩ := hs hne; exact ⟨b, off, e, Seen.rds fun _ => ⟨hS, hc⟩⟩) hl hone (by omega) (by omega) fun v7 m7 o7 => ?_)
    refine f_stepP rfl rfl rfl (o_assign rfl) ?_
    refine f_done ?_
    refine f_tn (kh5 _ _ ?_)
    clear kh5
    refine f_ret ?_
    exact f_fin1 [m7] Try.results36 rfl (by repeat (first | exact Sub.nil | refine Sub.pick ?_)) ⟨m7, rfl, by simpa using o7⟩

set_option maxRecDepth 100000 in
set_option maxHeartbeats 4000000 in
theorem IdxChg_spec (A : Option Addr) (l : List Chg) (cap : Nat) (fi : FuncId) (capi : List Value) (p : Chg → Bool) (w : World) (hr : Ro (Fr w []) w A (l.flatMap chgCs)) (hl : l.length ≤ 1000000000)
    (hci : ∀ args w, (callFunc fi args).run Try.prog w = .ok (.enter fi args) w)
    (his : ∀ w', (∀ k, Fr w [] k → w'.heap[k]? = w.heap[k]?) → ∀ x ∈ l, Meets Try.prog fi ([.agg (chgCs x).toArray] ++ capi) w' [] (fun u m => u = .bool (p x) ∧ m = [])) :
    Meets Try.prog 46 [.slice A l.length cap, .func (.func fi) #[] capi.toArray] w [] (fun u own' => u = .int .i64 (fidx p l) ∧ own' = []) := by
  refine f_enter Try.func46 rfl Try.ntmps46 rfl Owns.nil ?_
  refine f_seq fun K1 kh1 => ?_
  refine f_region ?_
  refine f_stepP rfl rfl rfl (o_assign rfl) ?_
  refine f_done ?_
  refine f_tn (kh1 _ _ ?_)
  clear kh1
  refine f_seq fun K2 kh2 => ?_
  refine f_seq fun K3 kh3 => ?_
  refine f_region ?_
  refine f_stepP rfl rfl rfl (o_move rfl) ?_
  refine f_stepP rfl rfl rfl (o_len sl45 rfl) ?_
  refine f_stepP rfl rfl rfl (o_move rfl) ?_
  refine f_done ?_
  refine f_tn (kh3 _ _ ?_)
  clear kh3
  refine f_block ?_
  refine f_loopK (α := Nat) [0, 1, 7] (fun k => [(8, .int .i64 (k : Int))]) (fun k => k ≤ l.length ∧ ∀ j (h : j < l.length), j < k → p l[j] = false) (fun k => l.length - k) (0) ?_ ?_ ?_
  · exact (by repeat (first | exact trivial | refine ⟨rfl, ?_⟩))
  · exact ⟨by omega, fun j _ h => by omega⟩
  · rintro k ⟨hkl, hpre⟩
    refine f_seq fun K4 kh4 => ?_
    refine f_region ?_
    refine f_stepP rfl rfl rfl (o_lss rfl rfl) ?_
    refine f_done ?_
    refine f_tn (kh4 _ _ ?_)
    clear kh4
    refine f_seq fun K5 kh5 => ?_
    refine f_cond rfl (fun c9 => ?_) (fun c9 => ?_)
    · skip
      refine f_skip ?_
      refine f_tn (kh5 _ _ ?_)
      clear kh5
      refine f_seq fun K6 kh6 => ?_
      refine f_block ?_
      refine f_seq fun K7 kh7 => ?_
      refine f_region ?_
      refine f_stepP rfl rfl rfl (o_move rfl) ?_
      refine f_stepP rfl rfl rfl (o_assign rfl) ?_
      refine f_done ?_
      refine f_tn (kh7 _ _ ?_)
      clear kh7
      refine f_seq fun K8 kh8 => ?_
      refine f_region ?_
      refine f_stepP rfl rfl rfl (o_move rfl) ?_
      refine f_stepP rfl rfl rfl (o_move rfl) ?_
      refine f_stepP rfl rfl rfl (o_move rfl) ?_
      have hk : k < l.length := by omega
      obtain ⟨bl, off, rfl, hS, hc⟩ := hr (flat_ne chgCs chgCs_len (by omega) hk)
      refine f_stepP rfl rfl rfl (o_idx sl45 rfl rfl (off + k * 2) ⟨by omega, by omega, by first | omega | (simp; done) | (simp; omega)⟩) ?_
      refine f_stepP rfl rfl rfl (o_loadA (vs := chgCs l[k]) Try.isAgg61 Try.sizeOf61 rfl rfl (roElem chgCs_len hS hc hk)) ?_
      refine f_step rfl rfl rfl (o_callV [] _ hci rfl rfl Sub.refl (fun w_ hp_ => (by have h := his w_ (fun j hj => hp_.same j hj) l[k] (List.getElem_mem hk); exact h)) ?_)
      rintro _ _ ⟨rfl, rfl⟩
      dsimp only [List.cons_append, List.nil_append]
      refine f_done ?_
      refine f_tn (kh8 _ _ ?_)
      clear kh8
      refine f_condB rfl (fun c16 => ?_) (fun c16 => ?_)
      · skip
        refine f_seq fun K9 kh9 => ?_
        refine f_region ?_
        refine f_stepP rfl rfl rfl (o_move rfl) ?_
        refine f_stepP rfl rfl rfl (o_assign rfl) ?_
        refine f_done ?_
        refine f_tn (kh9 _ _ ?_)
        clear kh9
        refine f_ret ?_
        refine f_br ?_
        refine f_tr ?_
        refine f_tr ?_
        refine f_br ?_
        refine f_tr ?_
        exact f_fin1 [] Try.results46 rfl Sub.nil ⟨by rw [fidx_at hk (by simpa using c16) hpre], rfl⟩
      · skip
        refine f_skip ?_
        refine f_bn ?_
        refine f_tn (kh6 _ _ ?_)
        clear kh6
        refine f_region ?_
        refine f_stepP rfl rfl rfl (o_add rfl rfl _ (wrap_i64 (by omega))) ?_
        refine f_stepP rfl rfl rfl (o_move rfl) ?_
        refine f_done ?_
        refine f_tn (f_again (k + 1) (by first | omega | (dsimp only; omega) | (simp; omega)) ⟨by omega, false_next hpre (by simpa using c16)⟩ ?_ ?_ ?_)
        · exact (by repeat (first | exact trivial | refine ⟨rfl, ?_⟩))
        · exact (by repeat (first | exact trivial | refine ⟨rfl, ?_⟩))
        · repeat (first | exact Sub.nil | refine Sub.pick ?_ | refine Sub.castO rfl ?_ | refine Sub.skip ?_)
    · skip
      refine f_exit ?_
      refine f_te ?_
      clear kh5
      refine f_te ?_
      refine f_be ?_
      refine f_tn (kh2 _ _ ?_)
      clear kh2
      refine f_seq fun K10 kh10 => ?_
      refine f_region ?_
      refine f_stepP rfl rfl rfl (o_assign rfl) ?_
      refine f_done ?_
      refine f_tn (kh10 _ _ ?_)
      clear kh10
      refine f_ret ?_
      exact f_fin1 [] Try.results46 rfl Sub.nil ⟨by rw [fidx_none (fun j h => hpre j h (by omega))], rfl⟩

set_option maxRecDepth 100000 in
set_option maxHeartbeats 4000000 in
theorem IdxChg_spec_has (A : Option Addr) (l : List Chg) (cap : Nat) (fi : FuncId) (capi : List Value) (p : Chg → Bool) (w : World) (hr : Ro (Fr w []) w A (l.flatMap chgCs)) (hl : l.length ≤ 1000000000)
    (hci : ∀ args w, (callFunc fi args).run Try.prog w = .ok (.enter fi args) w)
    (his : ∀ w', (∀ k, Fr w [] k → w'.heap[k]? = w.heap[k]?) → ∀ x ∈ l, Meets Try.prog fi ([.agg (chgCs x).toArray] ++ capi) w' [] (fun u m => u = .bool (p x) ∧ m = [])) :
    Meets Try.prog 34 [.slice A l.length cap, .func (.func fi) #[] capi.toArray] w [] (fun u own' => u = .bool (l.any p) ∧ own' = []) := by
  refine f_enter Try.func34 rfl Try.ntmps34 rfl Owns.nil ?_
  refine f_seq fun K1 kh1 => ?_
  refine f_region ?_
  refine f_stepP rfl rfl rfl (o_assign rfl) ?_
  refine f_done ?_
  refine f_tn (kh1 _ _ ?_)
  clear kh1
  refine f_seq fun K2 kh2 => ?_
  refine f_region ?_
  refine f_stepP rfl rfl rfl (o_move rfl) ?_
  refine f_stepP rfl rfl rfl (o_move rfl) ?_
  refine f_step rfl rfl rfl (o_call Try.call46 rfl (fun w_ hp_ => IdxChg_spec A l cap fi capi p w_ (hr.up0 hp_) hl hci (fun w' hs x hx => his w' (hp_.chain hs) x hx)) ?_)
  rintro _ _ ⟨rfl, rfl⟩
  dsimp only [List.cons_append, List.nil_append]
  refine f_stepP rfl rfl rfl (o_geq rfl rfl) ?_
  refine f_stepP rfl rfl rfl (o_assign rfl) ?_
  refine f_done ?_
  refine f_tn (kh2 _ _ ?_)
  clear kh2
  refine f_ret ?_
  exact f_fin1 [] Try.results34 rfl Sub.nil ⟨by rw [fidx_has], rfl⟩

set_option maxRecDepth 100000 in
set_option maxHeartbeats 4000000 in
theorem Change1_spec (x : Chg) (N : Int) (A : Option Addr) (len cap b : Nat) (w : World) (hb : Ro (Fr w []) w (some ⟨b, 0, none⟩) [.int .i64 N, .slice A len cap]) :
    Meets Try.prog 35 [.agg (chgCs x).toArray, .pointer (some ⟨b, 0, none⟩)] w [] (fun u m => u = .bool (chgBad len x) ∧ m = []) := by
  obtain ⟨b', o', e', hSb, hcb⟩ := hb (by simp)
  obtain ⟨rfl, rfl⟩ : b = b' ∧ 0 = o' := by cases e'; exact ⟨rfl, rfl⟩
  refine f_enter Try.func35 rfl Try.ntmps35 rfl Owns.nil ?_
  refine f_seq fun K1 kh1 => ?_
  refine f_region ?_
  refine f_step rfl rfl rfl (o_box rfl rfl fun b2 => ?_)
  refine f_stepP rfl rfl rfl (o_assign rfl) ?_
  refine f_done ?_
  refine f_tn (kh1 _ _ ?_)
  clear kh1
  refine f_seq fun K2 kh2 => ?_
  refine f_region ?_
  refine f_stepP rfl rfl rfl (o_field fa61_0 rfl) ?_
  refine f_stepP rfl rfl rfl (o_load Try.isAgg3 rfl (rdA rfl)) ?_
  refine f_stepP rfl rfl rfl (o_lss rfl rfl) ?_
  refine f_stepP rfl rfl rfl (o_move rfl) ?_
  refine f_splitL 7 rfl (fun g7 => ?_) (fun g7 => ?_)
  · skip
    refine f_stepN rfl rfl rfl rfl rfl rfl ?_
    refine f_stepN rfl rfl rfl rfl rfl rfl ?_
    refine f_stepN rfl rfl rfl rfl rfl rfl ?_
    refine f_stepN rfl rfl rfl rfl rfl rfl ?_
    refine f_stepN rfl rfl rfl rfl rfl rfl ?_
    refine f_stepN rfl rfl rfl rfl rfl rfl ?_
    refine f_stepP rfl rfl rfl (o_pickT rfl rfl) ?_
    refine f_stepP rfl rfl rfl (o_assign rfl) ?_
    refine f_done ?_
    refine f_tn (kh2 _ _ ?_)
    clear kh2
    refine f_ret ?_
    exact f_fin1 [] Try.results35 rfl Sub.nil ⟨by unfold chgBad; rw [decide_eq_true g7]; rfl, rfl⟩
  · skip
    refine f_stepPY rfl rfl rfl rfl rfl (o_field fa61_0 rfl) ?_
    refine f_stepPY rfl rfl rfl rfl rfl (o_load Try.isAgg3 rfl (rdA rfl)) ?_
    refine f_stepPY rfl rfl rfl rfl rfl (o_field fa24_1 rfl) ?_
    refine f_stepPY rfl rfl rfl rfl rfl (o_load Try.isAgg22 rfl (rdS hSb (hcb 1 _ rfl))) ?_
    refine f_stepPY rfl rfl rfl rfl rfl (o_len sl22 rfl) ?_
    refine f_stepPY rfl rfl rfl rfl rfl (o_geq rfl rfl) ?_
    refine f_stepP rfl rfl rfl (o_pickF rfl rfl) ?_
    refine f_stepP rfl rfl rfl (o_assign rfl) ?_
    refine f_done ?_
    refine f_tn (kh2 _ _ ?_)
    clear kh2
    refine f_ret ?_
    exact f_fin1 [] Try.results35 rfl Sub.nil ⟨by unfold chgBad; rw [decide_eq_false g7]; rfl, rfl⟩

set_option maxRecDepth 100000 in
set_option maxHeartbeats 4000000 in
theorem Change_spec (N : Int) (A : Option Addr) (l : List Arc) (cap : Nat) (B : Option Addr) (cs : List Chg) (cb : Nat) (w : World) (hr : Ro (Fr w []) w A (l.flatMap arcCs)) (hA : A = none → l.length = 0) (hk : Ro (Fr w []) w B (cs.flatMap chgCs)) (hl : l.length ≤ 9223372036854775807) (hN : I64 N) (hok : ∀ x ∈ l, ArcOk x) :
    Meets Try.prog 18 [.agg #[.int .i64 N, .slice A l.length cap], .slice B cs.length cb] w [] (GraphΦ (changeR N l cs)) := by
  refine f_enter Try.func18 rfl Try.ntmps18 rfl Owns.nil ?_
  refine f_seq fun K1 kh1 => ?_
  refine f_region ?_
  refine f_step rfl rfl rfl (o_box rfl rfl fun b2 => ?_)
  refine f_step rfl rfl rfl (o_alloc Try.zeroValue24 rfl fun b4 => ?_)
  refine f_stepP rfl rfl rfl (o_assign rfl) ?_
  refine f_done ?_
  refine f_tn (kh1 _ _ ?_)
  clear kh1
  refine f_seq fun K2 kh2 => ?_
  refine f_seq fun K3 kh3 => ?_
  refine f_region ?_
  refine f_stepP rfl rfl rfl (o_loadA (vs := [_, _]) Try.isAgg24 Try.sizeOf24 rfl rfl ⟨(rdA rfl), (rdA rfl), trivial⟩) ?_
  refine f_step rfl rfl rfl (o_call Try.call10 rfl (fun w_ hp_ => Check_spec N A l cap w_ (hr.up0 hp_) hl hN hok) ?_)
  rintro _ _ ⟨rfl, rfl⟩
  dsimp only [List.cons_append, List.nil_append]
  refine f_stepP rfl rfl rfl (o_move rfl) ?_
  refine f_stepP rfl rfl rfl (o_extract rfl rfl) ?_
  refine f_stepP rfl rfl rfl (o_extract rfl rfl) ?_
  refine f_stepP rfl rfl rfl (o_assign rfl) ?_
  refine f_stepP rfl rfl rfl (o_assign rfl) ?_
  refine f_done ?_
  refine f_tn (kh3 _ _ ?_)
  clear kh3
  refine f_seq fun K4 kh4 => ?_
  refine f_region ?_
  refine f_stepP rfl rfl rfl (o_move rfl) ?_
  refine f_stepP rfl rfl rfl (o_neq rfl rfl) ?_
  refine f_done ?_
  refine f_tn (kh4 _ _ ?_)
  clear kh4
  refine f_cond rfl (fun c17 => ?_) (fun c17 => ?_)
  · skip
    refine f_seq fun K5 kh5 => ?_
    refine f_region ?_
    refine f_stepP rfl rfl rfl (o_build st24 rfl rfl) ?_
    refine f_stepP rfl rfl rfl (o_move rfl) ?_
    refine f_step0 rfl rfl (o_storeA Try.sizeOf24 rfl rfl rfl rfl (by first | exact Nat.le_of_ble_eq_true rfl | (simp; done) | (simp; omega)) _ rfl ?_)
    refine f_stepP rfl rfl rfl (o_assign rfl) ?_
    refine f_done ?_
    refine f_tn (kh5 _ _ ?_)
    clear kh5
    refine f_ret ?_
    refine f_tr ?_
    exact f_finR2 [[]] Try.results18 (rvA (vs := [.int .i64 0, .slice none 0 0]) Try.isAgg24 Try.sizeOf24 rfl rfl ⟨(rdA rfl), (rdA rfl), trivial⟩) (rv rfl) Sub.empty (graphΦ_mk (L := []) (by unfold changeR; rw [if_pos (by simpa using c17)]) rfl (Own.nil _ _))
  · skip
    have hc0 : (gcheck N l).2 = 0 := by simpa using c17
    obtain ⟨hN1, hN2, hlen, hgood⟩ := gcheck_zero hc0
    refine f_skip ?_
    refine f_tn (kh2 _ _ ?_)
    clear kh2
    refine f_seq fun K6 kh6 => ?_
    refine f_seq fun K7 kh7 => ?_
    refine f_region ?_
    refine f_stepP rfl rfl rfl (o_move rfl) ?_
    refine f_stepP rfl rfl rfl (o_len sl45 rfl) ?_
    refine f_stepP rfl rfl rfl (o_gtr rfl rfl) ?_
    refine f_done ?_
    refine f_tn (kh7 _ _ ?_)
    clear kh7
    refine f_cond rfl (fun c22 => ?_) (fun c22 => ?_)
    · skip
      refine f_seq fun K8 kh8 => ?_
      refine f_region ?_
      refine f_stepP rfl rfl rfl (o_build st24 rfl rfl) ?_
      refine f_step0 rfl rfl (o_storeA Try.sizeOf24 rfl rfl rfl rfl (by first | exact Nat.le_of_ble_eq_true rfl | (simp; done) | (simp; omega)) _ rfl ?_)
      refine f_stepP rfl rfl rfl (o_assign rfl) ?_
      refine f_done ?_
      refine f_tn (kh8 _ _ ?_)
      clear kh8
      refine f_ret ?_
      refine f_tr ?_
      exact f_finR2 [[]] Try.results18 (rvA (vs := [.int .i64 0, .slice none 0 0]) Try.isAgg24 Try.sizeOf24 rfl rfl ⟨(rdA rfl), (rdA rfl), trivial⟩) (rv rfl) Sub.empty (graphΦ_mk (L := []) (by unfold changeR; rw [if_neg (by omega), if_pos (by omega)]) rfl (Own.nil _ _))
    · skip
      refine f_skip ?_
      refine f_tn (kh6 _ _ ?_)
      clear kh6
      refine f_seq fun K9 kh9 => ?_
      refine f_seq fun K10 kh10 => ?_
      refine f_region ?_
      refine f_stepP rfl rfl rfl (o_move rfl) ?_
      refine f_stepP rfl rfl rfl (o_func rfl rfl) ?_
      refine f_step rfl rfl rfl (o_call Try.call34 rfl (fun w_ hp_ => IdxChg_spec_has B cs cb 35 [.pointer (some ⟨b2, 0, none⟩)] (chgBad l.length) w_ (hk.up0 hp_) (by omega) Try.call35 (fun w' hs x _ => Change1_spec x N A l.length cap b2 w' (heldRo (b := b2) hp_ hs))) ?_)
      rintro _ _ ⟨rfl, rfl⟩
      dsimp only [List.cons_append, List.nil_append]
      refine f_done ?_
      refine f_tn (kh10 _ _ ?_)
      clear kh10
      refine f_condB rfl (fun c26 => ?_) (fun c26 => ?_)
      · skip
        refine f_seq fun K11 kh11 => ?_
        refine f_region ?_
        refine f_stepP rfl rfl rfl (o_build st24 rfl rfl) ?_
        refine f_step0 rfl rfl (o_storeA Try.sizeOf24 rfl rfl rfl rfl (by first | exact Nat.le_of_ble_eq_true rfl | (simp; done) | (simp; omega)) _ rfl ?_)
        refine f_stepP rfl rfl rfl (o_assign rfl) ?_
        refine f_done ?_
        refine f_tn (kh11 _ _ ?_)
        clear kh11
        refine f_ret ?_
        refine f_tr ?_
        exact f_finR2 [[]] Try.results18 (rvA (vs := [.int .i64 0, .slice none 0 0]) Try.isAgg24 Try.sizeOf24 rfl rfl ⟨(rdA rfl), (rdA rfl), trivial⟩) (rv rfl) Sub.empty (graphΦ_mk (L := []) (by unfold changeR; rw [if_neg (by omega), if_neg (by omega), if_pos (by simpa using c26)]) rfl (Own.nil _ _))
      · skip
        have hany : ∀ i (h : i < cs.length), 0 ≤ cs[i].arc ∧ cs[i].arc < l.length := fun i h => by
          have := List.any_eq_false.1 (by simpa using c26) _ (List.getElem_mem h)
          unfold chgBad at this; simp at this; omega
        refine f_skip ?_
        refine f_tn (kh9 _ _ ?_)
        clear kh9
        refine f_meet (α := Nat × Value × Seg) [1, 4] (fun ⟨b8, s8, m8⟩ => [(8, .pointer (some ⟨b8, 0, none⟩))]) (fun ⟨b8, s8, m8⟩ => [[(b8, blk [.int .i64 N, s8] 24)], m8, [(b4, blk [.int .i64 0, .slice none 0 0] 24)]]) (fun ⟨b8, s8, m8⟩ => Own 34 3 s8 l.length (l.flatMap arcCs) m8) ?_ ?_
        · intro K12 kh12
          refine f_regionH [[(b2, blk [.int .i64 N, .slice A l.length cap] 24)]] rfl ?_
          refine f_take 0 rfl (by decide +kernel) rfl rfl rfl (by repeat (first | exact Sub.nil | refine Sub.pick ?_ | refine Sub.castO rfl ?_ | refine Sub.skip ?_)) (o_field fa24_0 rfl) ?_
          refine f_take 1 rfl (by decide +kernel) rfl rfl rfl (by repeat (first | exact Sub.nil | refine Sub.pick ?_ | refine Sub.castO rfl ?_ | refine Sub.skip ?_)) (o_load Try.isAgg3 rfl (rdA rfl)) ?_
          refine f_take 2 rfl (by decide +kernel) rfl rfl rfl (by repeat (first | exact Sub.nil | refine Sub.pick ?_ | refine Sub.castO rfl ?_ | refine Sub.skip ?_)) (o_field fa24_1 rfl) ?_
          refine f_take 3 rfl (by decide +kernel) rfl rfl rfl (by repeat (first | exact Sub.nil | refine Sub.pick ?_ | refine Sub.castO rfl ?_ | refine Sub.skip ?_)) (o_load Try.isAgg22 rfl (rdA rfl)) ?_
          refine f_two 4 6 rfl rfl (by decide +kernel) rfl rfl rfl rfl rfl rfl ?_ ?_
          · skip
            refine (o_call Try.call36 rfl (fun w_ hp_ => CloneA_spec A l.length (l.flatMap arcCs) cap w_ (hr.up0 hp_) hA (flat_length arcCs arcCs_len l) (arcs_one l) (by omega)) ?_)
            rintro v32 _ ⟨m32, rfl, o32⟩
            obtain ⟨A8, cap8, rfl, hc8⟩ := o32.val
            dsimp only [List.cons_append, List.nil_append]
            refine ⟨(by repeat (first | exact Sub.nil | refine Sub.pick ?_ | refine Sub.castO rfl ?_ | refine Sub.skip ?_)), ?_⟩
            refine f_take 5 rfl (by decide +kernel) rfl rfl rfl (by repeat (first | exact Sub.nil | refine Sub.pick ?_ | refine Sub.castO rfl ?_ | refine Sub.skip ?_)) (o_build st24 rfl rfl) ?_
            refine f_only 6 rfl (by decide +kernel) rfl rfl rfl (o_alloc Try.zeroValue24 rfl fun b8 => ⟨(by repeat (first | exact Sub.nil | refine Sub.pick ?_ | refine Sub.castO rfl ?_ | refine Sub.skip ?_)), ?_⟩)
            refine f_only0 7 rfl (by decide +kernel) rfl rfl (o_storeA Try.sizeOf24 rfl rfl rfl rfl (by first | exact Nat.le_of_ble_eq_true rfl | (simp; done) | (simp; omega)) _ rfl ⟨(by repeat (first | exact Sub.nil | refine Sub.pick ?_ | refine Sub.castO rfl ?_ | refine Sub.skip ?_)), ?_⟩)
            refine f_over (by decide +kernel) ?_
            refine f_tn (kh12 _ _ (b8, .slice A8 l.length cap8, m32) o32 ?_ ?_ ?_)
            · exact (by repeat (first | exact trivial | refine ⟨rfl, ?_⟩))
            · exact (by repeat (first | exact trivial | refine ⟨rfl, ?_⟩))
            · repeat (first | exact Sub.nil | refine Sub.pick ?_ | refine Sub.castO rfl ?_ | refine Sub.skip ?_)
          · skip
            refine (o_alloc Try.zeroValue24 rfl fun b8 => ⟨(by repeat (first | exact Sub.nil | refine Sub.pick ?_ | refine Sub.castO rfl ?_ | refine Sub.skip ?_)), ?_⟩)
            refine f_only 4 rfl (by decide +kernel) rfl rfl rfl (o_call Try.call36 rfl (fun w_ hp_ => CloneA_spec A l.length (l.flatMap arcCs) cap w_ (hr.up0 hp_) hA (flat_length arcCs arcCs_len l) (arcs_one l) (by omega)) ?_)
            rintro v32 _ ⟨m32, rfl, o32⟩
            obtain ⟨A8, cap8, rfl, hc8⟩ := o32.val
            dsimp only [List.cons_append, List.nil_append]
            refine ⟨(by repeat (first | exact Sub.nil | refine Sub.pick ?_ | refine Sub.castO rfl ?_ | refine Sub.skip ?_)), ?_⟩
            refine f_take 5 rfl (by decide +kernel) rfl rfl rfl (by repeat (first | exact Sub.nil | refine Sub.pick ?_ | refine Sub.castO rfl ?_ | refine Sub.skip ?_)) (o_build st24 rfl rfl) ?_
            refine f_only0 7 rfl (by decide +kernel) rfl rfl (o_storeA Try.sizeOf24 rfl rfl rfl rfl (by first | exact Nat.le_of_ble_eq_true rfl | (simp; done) | (simp; omega)) _ rfl ⟨(by repeat (first | exact Sub.nil | refine Sub.pick ?_ | refine Sub.castO rfl ?_ | refine Sub.skip ?_)), ?_⟩)
            refine f_over (by decide +kernel) ?_
            refine f_tn (kh12 _ _ (b8, .slice A8 l.length cap8, m32) o32 ?_ ?_ ?_)
            · exact (by repeat (first | exact trivial | refine ⟨rfl, ?_⟩))
            · exact (by repeat (first | exact trivial | refine ⟨rfl, ?_⟩))
            · repeat (first | exact Sub.nil | refine Sub.pick ?_ | refine Sub.castO rfl ?_ | refine Sub.skip ?_)
        · rintro ⟨b8, s8, m8⟩ o32
          obtain ⟨A8, cap8, rfl, hc8⟩ := o32.val
          refine f_seq fun K13 kh13 => ?_
          refine f_seq fun K14 kh14 => ?_
          refine f_region ?_
          refine f_stepP rfl rfl rfl (o_move rfl) ?_
          refine f_stepP rfl rfl rfl (o_len sl45 rfl) ?_
          refine f_stepP rfl rfl rfl (o_move rfl) ?_
          refine f_done ?_
          refine f_tn (kh14 _ _ ?_)
          clear kh14
          refine f_block ?_
          refine f_loop (α := Nat × Seg) [4, 8, 34, 35] (fun ⟨i, m8⟩ => [(36, .int .i64 (i : Int))]) (fun ⟨i, m8⟩ => [[(b8, blk [.int .i64 N, .slice A8 l.length cap8] 24)], m8, [(b4, blk [.int .i64 0, .slice none 0 0] 24)]]) (fun ⟨i, m8⟩ => i ≤ cs.length ∧ Own 34 3 (.slice A8 l.length cap8) l.length ((chg l (cs.take i)).flatMap arcCs) m8) (fun ⟨i, m8⟩ => cs.length - i) (0, m8) ?_ ?_ ?_ ?_
          · exact (by repeat (first | exact trivial | refine ⟨rfl, ?_⟩))
          · repeat (first | exact Sub.nil | refine Sub.pick ?_ | refine Sub.castO rfl ?_ | refine Sub.skip ?_)
          · exact ⟨by omega, o32⟩
          · rintro ⟨i, m8⟩ ⟨hi0, hown⟩
            refine f_seq fun K15 kh15 => ?_
            refine f_region ?_
            refine f_stepP rfl rfl rfl (o_lss rfl rfl) ?_
            refine f_done ?_
            refine f_tn (kh15 _ _ ?_)
            clear kh15
            refine f_seq fun K16 kh16 => ?_
            refine f_cond rfl (fun c37 => ?_) (fun c37 => ?_)
            · skip
              refine f_skip ?_
              refine f_tn (kh16 _ _ ?_)
              clear kh16
              refine f_seq fun K17 kh17 => ?_
              refine f_block ?_
              refine f_seq fun K18 kh18 => ?_
              refine f_region ?_
              have hi : i < cs.length := by omega
              obtain ⟨bk, ok, rfl, hSk, hck⟩ := hk (flat_ne chgCs chgCs_len (by omega) hi)
              have hai := hany i hi
              obtain ⟨b5, sp5, rfl, rfl, hup⟩ := hown.upd (by omega)
              refine f_stepP rfl rfl rfl (o_idx sl45 rfl rfl (ok + i * 2) ⟨by omega, by omega, by first | omega | (simp; done) | (simp; omega)⟩) ?_
              refine f_stepP rfl rfl rfl (o_loadA (vs := chgCs cs[i]) Try.isAgg61 Try.sizeOf61 rfl rfl (roElem chgCs_len hSk hck hi)) ?_
              refine f_step rfl rfl rfl (o_alloc Try.zeroValue61 rfl fun b10 => ?_)
              refine f_step0 rfl rfl (o_storeA Try.sizeOf61 rfl rfl rfl rfl (by first | exact Nat.le_of_ble_eq_true rfl | (simp; done) | (simp; omega)) _ rfl ?_)
              refine f_done ?_
              refine f_tn (kh18 _ _ ?_)
              clear kh18
              refine f_region ?_
              refine f_stepP rfl rfl rfl (o_field fa24_1 rfl) ?_
              refine f_stepP rfl rfl rfl (o_load Try.isAgg22 rfl (rdA rfl)) ?_
              refine f_stepP rfl rfl rfl (o_field fa61_0 rfl) ?_
              refine f_stepP rfl rfl rfl (o_load Try.isAgg3 rfl (rdA rfl)) ?_
              refine f_stepP rfl rfl rfl (o_field fa61_1 rfl) ?_
              refine f_stepP rfl rfl rfl (o_load Try.isAgg32 rfl (rdA rfl)) ?_
              refine f_stepP rfl rfl rfl (o_idx sl22 rfl rfl (cs[i].arc.toNat * 3) ⟨by omega, by omega, by first | omega | (simp; done) | (simp; omega)⟩) ?_
              refine f_stepP rfl rfl rfl (o_field fa34_2 rfl) ?_
              refine f_step0 rfl rfl (o_store Try.sizeOf32 rfl rfl rfl rfl (by rw [List.length_append, flat_length arcCs arcCs_len, chg_len]; omega) ((chg l (cs.take (i + 1))).flatMap arcCs ++ sp5) (by rw [chg_take hi, chg1_set (k := cs[i].arc.toNat) (by rw [chg_len]; omega) rfl]; exact set_flat arcCs_len sp5 (by omega) _ _ _ (by rw [chg_len]; omega) rfl) ?_)
              refine f_done ?_
              refine f_bn ?_
              refine f_tn (kh17 _ _ ?_)
              clear kh17
              refine f_region ?_
              refine f_stepP rfl rfl rfl (o_add rfl rfl _ (wrap_i64 (by omega))) ?_
              refine f_stepP rfl rfl rfl (o_move rfl) ?_
              refine f_done ?_
              refine f_tn (f_again (i + 1, [(b5, blk ((chg l (cs.take (i + 1))).flatMap arcCs ++ sp5) 34)]) (by first | omega | (dsimp only; omega) | (simp; omega)) ⟨by omega, hup _ (by rw [flat_length arcCs arcCs_len, flat_length arcCs arcCs_len, chg_len, chg_len])⟩ ?_ ?_ ?_)
              · exact (by repeat (first | exact trivial | refine ⟨rfl, ?_⟩))
              · exact (by repeat (first | exact trivial | refine ⟨rfl, ?_⟩))
              · repeat (first | exact Sub.nil | refine Sub.pick ?_ | refine Sub.castO rfl ?_ | refine Sub.skip ?_)
            · skip
              refine f_exit ?_
              refine f_te ?_
              clear kh16
              refine f_te ?_
              refine f_be ?_
              refine f_tn (kh13 _ _ ?_)
              clear kh13
              refine f_seq fun K19 kh19 => ?_
              refine f_region ?_
              refine f_stepP rfl rfl rfl (o_loadA (vs := [_, _]) Try.isAgg24 Try.sizeOf24 rfl rfl ⟨(rdA rfl), (rdA rfl), trivial⟩) ?_
              refine f_step0 rfl rfl (o_storeA Try.sizeOf24 rfl rfl rfl rfl (by first | exact Nat.le_of_ble_eq_true rfl | (simp; done) | (simp; omega)) _ rfl ?_)
              refine f_stepP rfl rfl rfl (o_assign rfl) ?_
              refine f_done ?_
              refine f_tn (kh19 _ _ ?_)
              clear kh19
              refine f_ret ?_
              have et : cs.take i = cs := List.take_of_length_le (by omega)
              rw [et] at hown
              exact f_finR2 [m8] Try.results18 (rvA (vs := [.int .i64 N, .slice A8 l.length cap8]) Try.isAgg24 Try.sizeOf24 rfl rfl ⟨(rdA rfl), (rdA rfl), trivial⟩) (rv rfl) (by repeat (first | exact Sub.nil | refine Sub.pick ?_)) (graphΦ_mk (by unfold changeR; rw [if_neg (by omega), if_neg (by omega), if_neg (by simpa using c26)]) (chg_len cs l).symm hown)

set_option maxRecDepth 100000 in
set_option maxHeartbeats 4000000 in
theorem Weigh_spec (N : Int) (A : Option Addr) (l : List Arc) (cap : Nat) (B : Option Addr) (ws : List Int) (cb : Nat) (w : World) (hr : Ro (Fr w []) w A (l.flatMap arcCs)) (hA : A = none → l.length = 0) (hk : Ro (Fr w []) w B (ws.map (.int .u32 ·))) (hl : l.length ≤ 9223372036854775807) (hN : I64 N) (hok : ∀ x ∈ l, ArcOk x) :
    Meets Try.prog 19 [.agg #[.int .i64 N, .slice A l.length cap], .slice B ws.length cb] w [] (GraphΦ (weighR N l ws)) := by
  refine f_enter Try.func19 rfl Try.ntmps19 rfl Owns.nil ?_
  refine f_seq fun K1 kh1 => ?_
  refine f_region ?_
  refine f_step rfl rfl rfl (o_box rfl rfl fun b2 => ?_)
  refine f_step rfl rfl rfl (o_alloc Try.zeroValue24 rfl fun b4 => ?_)
  refine f_stepP rfl rfl rfl (o_assign rfl) ?_
  refine f_done ?_
  refine f_tn (kh1 _ _ ?_)
  clear kh1
  refine f_seq fun K2 kh2 => ?_
  refine f_seq fun K3 kh3 => ?_
  refine f_region ?_
  refine f_stepP rfl rfl rfl (o_loadA (vs := [_, _]) Try.isAgg24 Try.sizeOf24 rfl rfl ⟨(rdA rfl), (rdA rfl), trivial⟩) ?_
  refine f_step rfl rfl rfl (o_call Try.call10 rfl (fun w_ hp_ => Check_spec N A l cap w_ (hr.up0 hp_) hl hN hok) ?_)
  rintro _ _ ⟨rfl, rfl⟩
  dsimp only [List.cons_append, List.nil_append]
  refine f_stepP rfl rfl rfl (o_move rfl) ?_
  refine f_stepP rfl rfl rfl (o_extract rfl rfl) ?_
  refine f_stepP rfl rfl rfl (o_extract rfl rfl) ?_
  refine f_stepP rfl rfl rfl (o_assign rfl) ?_
  refine f_stepP rfl rfl rfl (o_assign rfl) ?_
  refine f_done ?_
  refine f_tn (kh3 _ _ ?_)
  clear kh3
  refine f_seq fun K4 kh4 => ?_
  refine f_region ?_
  refine f_stepP rfl rfl rfl (o_move rfl) ?_
  refine f_stepP rfl rfl rfl (o_neq rfl rfl) ?_
  refine f_done ?_
  refine f_tn (kh4 _ _ ?_)
  clear kh4
  refine f_cond rfl (fun c17 => ?_) (fun c17 => ?_)
  · skip
    refine f_seq fun K5 kh5 => ?_
    refine f_region ?_
    refine f_stepP rfl rfl rfl (o_build st24 rfl rfl) ?_
    refine f_stepP rfl rfl rfl (o_move rfl) ?_
    refine f_step0 rfl rfl (o_storeA Try.sizeOf24 rfl rfl rfl rfl (by first | exact Nat.le_of_ble_eq_true rfl | (simp; done) | (simp; omega)) _ rfl ?_)
    refine f_stepP rfl rfl rfl (o_assign rfl) ?_
    refine f_done ?_
    refine f_tn (kh5 _ _ ?_)
    clear kh5
    refine f_ret ?_
    refine f_tr ?_
    exact f_finR2 [[]] Try.results19 (rvA (vs := [.int .i64 0, .slice none 0 0]) Try.isAgg24 Try.sizeOf24 rfl rfl ⟨(rdA rfl), (rdA rfl), trivial⟩) (rv rfl) Sub.empty (graphΦ_mk (L := []) (by unfold weighR; rw [if_pos (by simpa using c17)]) rfl (Own.nil _ _))
  · skip
    have hc0 : (gcheck N l).2 = 0 := by simpa using c17
    obtain ⟨hN1, hN2, hlen, hgood⟩ := gcheck_zero hc0
    refine f_skip ?_
    refine f_tn (kh2 _ _ ?_)
    clear kh2
    refine f_seq fun K6 kh6 => ?_
    refine f_seq fun K7 kh7 => ?_
    refine f_region ?_
    refine f_stepP rfl rfl rfl (o_move rfl) ?_
    refine f_stepP rfl rfl rfl (o_len sl47 rfl) ?_
    refine f_stepP rfl rfl rfl (o_field fa24_1 rfl) ?_
    refine f_stepP rfl rfl rfl (o_load Try.isAgg22 rfl (rdA rfl)) ?_
    refine f_stepP rfl rfl rfl (o_len sl22 rfl) ?_
    refine f_stepP rfl rfl rfl (o_neq rfl rfl) ?_
    refine f_done ?_
    refine f_tn (kh7 _ _ ?_)
    clear kh7
    refine f_cond rfl (fun c25 => ?_) (fun c25 => ?_)
    · skip
      refine f_seq fun K8 kh8 => ?_
      refine f_region ?_
      refine f_stepP rfl rfl rfl (o_build st24 rfl rfl) ?_
      refine f_step0 rfl rfl (o_storeA Try.sizeOf24 rfl rfl rfl rfl (by first | exact Nat.le_of_ble_eq_true rfl | (simp; done) | (simp; omega)) _ rfl ?_)
      refine f_stepP rfl rfl rfl (o_assign rfl) ?_
      refine f_done ?_
      refine f_tn (kh8 _ _ ?_)
      clear kh8
      refine f_ret ?_
      refine f_tr ?_
      exact f_finR2 [[]] Try.results19 (rvA (vs := [.int .i64 0, .slice none 0 0]) Try.isAgg24 Try.sizeOf24 rfl rfl ⟨(rdA rfl), (rdA rfl), trivial⟩) (rv rfl) Sub.empty (graphΦ_mk (L := []) (by unfold weighR; rw [if_neg (by omega), if_pos (by omega)]) rfl (Own.nil _ _))
    · skip
      have hwl : ws.length = l.length := by omega
      refine f_skip ?_
      refine f_tn (kh6 _ _ ?_)
      clear kh6
      refine f_meet (α := Nat × Value × Seg) [1, 4] (fun ⟨b8, s8, m8⟩ => [(8, .pointer (some ⟨b8, 0, none⟩))]) (fun ⟨b8, s8, m8⟩ => [[(b8, blk [.int .i64 N, s8] 24)], m8, [(b4, blk [.int .i64 0, .slice none 0 0] 24)]]) (fun ⟨b8, s8, m8⟩ => Own 34 3 s8 l.length (l.flatMap arcCs) m8) ?_ ?_
      · intro K9 kh9
        refine f_regionH [[(b2, blk [.int .i64 N, .slice A l.length cap] 24)]] rfl ?_
        refine f_take 0 rfl (by decide +kernel) rfl rfl rfl (by repeat (first | exact Sub.nil | refine Sub.pick ?_ | refine Sub.castO rfl ?_ | refine Sub.skip ?_)) (o_field fa24_0 rfl) ?_
        refine f_take 1 rfl (by decide +kernel) rfl rfl rfl (by repeat (first | exact Sub.nil | refine Sub.pick ?_ | refine Sub.castO rfl ?_ | refine Sub.skip ?_)) (o_load Try.isAgg3 rfl (rdA rfl)) ?_
        refine f_take 2 rfl (by decide +kernel) rfl rfl rfl (by repeat (first | exact Sub.nil | refine Sub.pick ?_ | refine Sub.castO rfl ?_ | refine Sub.skip ?_)) (o_field fa24_1 rfl) ?_
        refine f_take 3 rfl (by decide +kernel) rfl rfl rfl (by repeat (first | exact Sub.nil | refine Sub.pick ?_ | refine Sub.castO rfl ?_ | refine Sub.skip ?_)) (o_load Try.isAgg22 rfl (rdA rfl)) ?_
        refine f_two 4 6 rfl rfl (by decide +kernel) rfl rfl rfl rfl rfl rfl ?_ ?_
        · skip
          refine (o_call Try.call36 rfl (fun w_ hp_ => CloneA_spec A l.length (l.flatMap arcCs) cap w_ (hr.up0 hp_) hA (flat_length arcCs arcCs_len l) (arcs_one l) (by omega)) ?_)
          rintro v32 _ ⟨m32, rfl, o32⟩
          obtain ⟨A8, cap8, rfl, hc8⟩ := o32.val
          dsimp only [List.cons_append, List.nil_append]
          refine ⟨(by repeat (first | exact Sub.nil | refine Sub.pick ?_ | refine Sub.castO rfl ?_ | refine Sub.skip ?_)), ?_⟩
          refine f_take 5 rfl (by decide +kernel) rfl rfl rfl (by repeat (first | exact Sub.nil | refine Sub.pick ?_ | refine Sub.castO rfl ?_ | refine Sub.skip ?_)) (o_build st24 rfl rfl) ?_
          refine f_only 6 rfl (by decide +kernel) rfl rfl rfl (o_alloc Try.zeroValue24 rfl fun b8 => ⟨(by repeat (first | exact Sub.nil | refine Sub.pick ?_ | refine Sub.castO rfl ?_ | refine Sub.skip ?_)), ?_⟩)
          refine f_only0 7 rfl (by decide +kernel) rfl rfl (o_storeA Try.sizeOf24 rfl rfl rfl rfl (by first | exact Nat.le_of_ble_eq_true rfl | (simp; done) | (simp; omega)) _ rfl ⟨(by repeat (first | exact Sub.nil | refine Sub.pick ?_ | refine Sub.castO rfl ?_ | refine Sub.skip ?_)), ?_⟩)
          refine f_over (by decide +kernel) ?_
          refine f_tn (kh9 _ _ (b8, .slice A8 l.length cap8, m32) o32 ?_ ?_ ?_)
          · exact (by repeat (first | exact trivial | refine ⟨rfl, ?_⟩))
          · exact (by repeat (first | exact trivial | refine ⟨rfl, ?_⟩))
          · repeat (first | exact Sub.nil | refine Sub.pick ?_ | refine Sub.castO rfl ?_ | refine Sub.skip ?_)
        · skip
          refine (o_alloc Try.zeroValue24 rfl fun b8 => ⟨(by repeat (first | exact Sub.nil | refine Sub.pick ?_ | refine Sub.castO rfl ?_ | refine Sub.skip ?_)), ?_⟩)
          refine f_only 4 rfl (by decide +kernel) rfl rfl rfl (o_call Try.call36 rfl (fun w_ hp_ => CloneA_spec A l.length (l.flatMap arcCs) cap w_ (hr.up0 hp_) hA (flat_length arcCs arcCs_len l) (arcs_one l) (by omega)) ?_)
          rintro v32 _ ⟨m32, rfl, o32⟩
          obtain ⟨A8, cap8, rfl, hc8⟩ := o32.val
          dsimp only [List.cons_append, List.nil_append]
          refine ⟨(by repeat (first | exact Sub.nil | refine Sub.pick ?_ | refine Sub.castO rfl ?_ | refine Sub.skip ?_)), ?_⟩
          refine f_take 5 rfl (by decide +kernel) rfl rfl rfl (by repeat (first | exact Sub.nil | refine Sub.pick ?_ | refine Sub.castO rfl ?_ | refine Sub.skip ?_)) (o_build st24 rfl rfl) ?_
          refine f_only0 7 rfl (by decide +kernel) rfl rfl (o_storeA Try.sizeOf24 rfl rfl rfl rfl (by first | exact Nat.le_of_ble_eq_true rfl | (simp; done) | (simp; omega)) _ rfl ⟨(by repeat (first | exact Sub.nil | refine Sub.pick ?_ | refine Sub.castO rfl ?_ | refine Sub.skip ?_)), ?_⟩)
          refine f_over (by decide +kernel) ?_
          refine f_tn (kh9 _ _ (b8, .slice A8 l.length cap8, m32) o32 ?_ ?_ ?_)
          · exact (by repeat (first | exact trivial | refine ⟨rfl, ?_⟩))
          · exact (by repeat (first | exact trivial | refine ⟨rfl, ?_⟩))
          · repeat (first | exact Sub.nil | refine Sub.pick ?_ | refine Sub.castO rfl ?_ | refine Sub.skip ?_)
      · rintro ⟨b8, s8, m8⟩ o32
        obtain ⟨A8, cap8, rfl, hc8⟩ := o32.val
        refine f_seq fun K10 kh10 => ?_
        refine f_seq fun K11 kh11 => ?_
        refine f_region ?_
        refine f_stepP rfl rfl rfl (o_move rfl) ?_
        refine f_stepP rfl rfl rfl (o_len sl47 rfl) ?_
        refine f_stepP rfl rfl rfl (o_move rfl) ?_
        refine f_done ?_
        refine f_tn (kh11 _ _ ?_)
        clear kh11
        refine f_block ?_
        refine f_loop (α := Nat × Seg) [4, 8, 33, 34] (fun ⟨i, m8⟩ => [(35, .int .i64 (i : Int))]) (fun ⟨i, m8⟩ => [[(b8, blk [.int .i64 N, .slice A8 l.length cap8] 24)], m8, [(b4, blk [.int .i64 0, .slice none 0 0] 24)]]) (fun ⟨i, m8⟩ => i ≤ ws.length ∧ Own 34 3 (.slice A8 l.length cap8) l.length ((weighTo l ws i).flatMap arcCs) m8) (fun ⟨i, m8⟩ => ws.length - i) (0, m8) ?_ ?_ ?_ ?_
        · exact (by repeat (first | exact trivial | refine ⟨rfl, ?_⟩))
        · repeat (first | exact Sub.nil | refine Sub.pick ?_ | refine Sub.castO rfl ?_ | refine Sub.skip ?_)
        · exact ⟨by omega, o32⟩
        · rintro ⟨i, m8⟩ ⟨hi0, hown⟩
          refine f_seq fun K12 kh12 => ?_
          refine f_region ?_
          refine f_stepP rfl rfl rfl (o_lss rfl rfl) ?_
          refine f_done ?_
          refine f_tn (kh12 _ _ ?_)
          clear kh12
          refine f_seq fun K13 kh13 => ?_
          refine f_cond rfl (fun c36 => ?_) (fun c36 => ?_)
          · skip
            refine f_skip ?_
            refine f_tn (kh13 _ _ ?_)
            clear kh13
            refine f_seq fun K14 kh14 => ?_
            refine f_block ?_
            refine f_seq fun K15 kh15 => ?_
            refine f_region ?_
            refine f_stepP rfl rfl rfl (o_move rfl) ?_
            have hi : i < ws.length := by omega
            obtain ⟨bk, ok, rfl, hSk, hck⟩ := hk (map_ne hi)
            obtain ⟨b5, sp5, rfl, rfl, hup⟩ := hown.upd (by omega)
            have hwt := weighTo_len hwl (i := i) (by omega)
            refine f_stepP rfl rfl rfl (o_idx sl47 rfl rfl (ok + i) ⟨by omega, by omega, by first | omega | (simp; done) | (simp; omega)⟩) ?_
            refine f_stepP rfl rfl rfl (o_load Try.isAgg32 rfl (roOne (enc := (.int .u32 ·)) hSk hck hi)) ?_
            refine f_stepP rfl rfl rfl (o_assign rfl) ?_
            refine f_stepP rfl rfl rfl (o_assign rfl) ?_
            refine f_done ?_
            refine f_tn (kh15 _ _ ?_)
            clear kh15
            refine f_region ?_
            refine f_stepP rfl rfl rfl (o_field fa24_1 rfl) ?_
            refine f_stepP rfl rfl rfl (o_load Try.isAgg22 rfl (rdA rfl)) ?_
            refine f_stepP rfl rfl rfl (o_move rfl) ?_
            refine f_stepP rfl rfl rfl (o_move rfl) ?_
            refine f_stepP rfl rfl rfl (o_idx sl22 rfl rfl (i * 3) ⟨by omega, by omega, by first | omega | (simp; done) | (simp; omega)⟩) ?_
            refine f_stepP rfl rfl rfl (o_field fa34_2 rfl) ?_
            refine f_step0 rfl rfl (o_store Try.sizeOf32 rfl rfl rfl rfl (by rw [List.length_append, flat_length arcCs arcCs_len, hwt]; omega) ((weighTo l ws (i + 1)).flatMap arcCs ++ sp5) (by rw [← weighTo_next hwl (by omega) hi]; exact set_flat arcCs_len sp5 (by omega) _ _ _ (by omega) (by rw [weighTo_get hwl (by omega)]; rfl)) ?_)
            refine f_done ?_
            refine f_bn ?_
            refine f_tn (kh14 _ _ ?_)
            clear kh14
            refine f_region ?_
            refine f_stepP rfl rfl rfl (o_add rfl rfl _ (wrap_i64 (by omega))) ?_
            refine f_stepP rfl rfl rfl (o_move rfl) ?_
            refine f_done ?_
            refine f_tn (f_again (i + 1, [(b5, blk ((weighTo l ws (i + 1)).flatMap arcCs ++ sp5) 34)]) (by first | omega | (dsimp only; omega) | (simp; omega)) ⟨by omega, hup _ (by rw [flat_length arcCs arcCs_len, flat_length arcCs arcCs_len, weighTo_len hwl (by omega), weighTo_len hwl (by omega)])⟩ ?_ ?_ ?_)
            · exact (by repeat (first | exact trivial | refine ⟨rfl, ?_⟩))
            · exact (by repeat (first | exact trivial | refine ⟨rfl, ?_⟩))
            · repeat (first | exact Sub.nil | refine Sub.pick ?_ | refine Sub.castO rfl ?_ | refine Sub.skip ?_)
          · skip
            refine f_exit ?_
            refine f_te ?_
            clear kh13
            refine f_te ?_
            refine f_be ?_
            refine f_tn (kh10 _ _ ?_)
            clear kh10
            refine f_seq fun K16 kh16 => ?_
            refine f_region ?_
            refine f_stepP rfl rfl rfl (o_loadA (vs := [_, _]) Try.isAgg24 Try.sizeOf24 rfl rfl ⟨(rdA rfl), (rdA rfl), trivial⟩) ?_
            refine f_step0 rfl rfl (o_storeA Try.sizeOf24 rfl rfl rfl rfl (by first | exact Nat.le_of_ble_eq_true rfl | (simp; done) | (simp; omega)) _ rfl ?_)
            refine f_stepP rfl rfl rfl (o_assign rfl) ?_
            refine f_done ?_
            refine f_tn (kh16 _ _ ?_)
            clear kh16
            refine f_ret ?_
            have et := weighTo_all hwl (i := i) (by omega)
            rw [et] at hown
            exact f_finR2 [m8] Try.results19 (rvA (vs := [.int .i64 N, .slice A8 l.length cap8]) Try.isAgg24 Try.sizeOf24 rfl rfl ⟨(rdA rfl), (rdA rfl), trivial⟩) (rv rfl) (by repeat (first | exact Sub.nil | refine Sub.pick ?_)) (graphΦ_mk (by unfold weighR; rw [if_neg (by omega), if_neg (by omega)]) (weigh_len hwl).symm hown)

end Go.Proofs.Ythbkeoejbendnaa
