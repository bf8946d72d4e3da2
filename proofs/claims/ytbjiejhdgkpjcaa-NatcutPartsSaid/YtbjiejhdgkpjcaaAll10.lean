import Derived.Test.YtbjiejhdgkpjcaaFlyMap
import Derived.Laws.IdiomRangeMap
import Derived.Test.YtbjiejhdgkpjcaaAll9
import Derived.Test.YtbjiejhdgkpjcaaAll7
import Derived.Test.YtbjiejhdgkpjcaaAll6

/- Ranging over a map that the loop does not write, in the words of the small logic. -/

namespace Go.Proofs.Ytbjiejhdgkpjcaa.Fly
open Go Go.RowKit
set_option linter.unusedVariables false
set_option linter.unusedSimpArgs false
set_option linter.unusedSectionVars false

theorem nodup_inj {β γ : Type} {f : β → γ} : ∀ {l : List β} {a b : β}, (l.map f).Nodup → a ∈ l → b ∈ l → f a = f b → a = b
  | [], _, _, _, ha, _, _ => by cases ha
  | x :: l, a, b, h, ha, hb, e => by
    simp only [List.map_cons, List.nodup_cons, List.mem_map, not_exists, not_and] at h
    simp only [List.mem_cons] at ha hb
    rcases ha with rfl | ha <;> rcases hb with rfl | hb
    · rfl
    · exact absurd e.symm (h.1 b hb)
    · exact absurd e (h.1 a ha)
    · exact nodup_inj h.2 ha hb e

section
variable {α : Type} [DecidableEq α]
/-- The keys that have come. -/
structure Came (l : List (α × Value × Nat)) (seen : List Nat) (out : List α) : Prop where
  nodup : out.Nodup
  mem : ∀ e ∈ l, e.1 ∈ out ↔ e.2.2 ∈ seen
  sub : ∀ k ∈ out, k ∈ l.map (·.1)
theorem Came.start {l : List (α × Value × Nat)} : Came l [] [] := ⟨by simp, by simp, by simp⟩
theorem Came.len {l : List (α × Value × Nat)} {seen : List Nat} {out : List α} (h : Came l seen out) : out.length ≤ l.length := by
  have := List.Nodup.length_le_of_subset h.nodup h.sub
  simpa using this
theorem Came.next {l : List (α × Value × Nat)} {c : Nat} {seen : List Nat} {out : List α} (h : Came l seen out) (hok : MOk l c) {e : α × Value × Nat} (he : e ∈ l) (hne : e.2.2 ∉ seen) : Came l (seen ++ [e.2.2]) (out ++ [e.1]) where
  nodup := by
    rw [List.nodup_append]
    refine ⟨h.nodup, by simp, fun a ha b hb e' => ?_⟩
    simp only [List.mem_singleton] at hb
    subst hb; subst e'
    exact hne ((h.mem e he).1 ha)
  mem := fun x hx => by
    simp only [List.mem_append, List.mem_singleton]
    rw [h.mem x hx]
    constructor
    · rintro (h1 | h1)
      · exact .inl h1
      · exact .inr (by rw [nodup_inj hok.keys hx he h1])
    · rintro (h1 | h1)
      · exact .inl h1
      · exact .inr (by rw [nodup_inj (f := fun x => x.2.2) hok.born hx he h1])
  sub := fun k hk => by
    simp only [List.mem_append, List.mem_singleton] at hk
    rcases hk with hk | rfl
    · exact h.sub k hk
    · exact List.mem_map.2 ⟨e, he, rfl⟩
theorem Came.all {l : List (α × Value × Nat)} {seen : List Nat} {out : List α} (h : Came l seen out) (ha : ∀ e ∈ l, e.2.2 ∈ seen) (k : α) : k ∈ out ↔ k ∈ l.map (·.1) :=
  ⟨h.sub k, fun hk => by obtain ⟨e, he, rfl⟩ := List.mem_map.1 hk; exact (h.mem e he).2 (ha e he)⟩
/-- An iterator over a map's block: the stamps of what it has handed out. -/
abbrev itObj (bm c : Nat) (seen : List Nat) : Obj := .mapIter (some bm) c seen.toArray c

variable {P : Program} {n : Nat} {S : Nat → Prop} {w0 : World} {env : Env} {segs : List Seg} {K : Value → List Seg → Prop} {d : Option Tmp} {ty : TypeId} {pos : String} {af : Array Edge} {g : Option (Nat × Bool)} {M k E : TypeId} {enc : α → Value}

theorem o_range {x : Operand} {bm : Nat} {l : List (α × Value × Nat)} {c : Nat} {f : Seg → List Seg} (KT : KeyT P M k E enc) (hx : ev env x = some (.map (some bm))) [hA : At segs bm (mobj enc l c) f]
    (kk : ∀ b, K (.pointer (some ⟨b, 0, none⟩)) ([(b, itObj bm c [])] :: segs)) : Does P n S w0 env segs ⟨d, .range M x, ty, pos, af, g⟩ K :=
  does_of fun a w ha hp => by
    have hb := hp.own bm _ hA.mem
    refine ⟨_, _, w.alloc (itObj bm c []), .inl ?_, by simpa using hp.alloc (itObj bm c []), kk w.heap.size⟩
    simp only [execOp, ha.eval hx, Sem.run_bind, run_range_map w M k E bm _ c KT.und hb, Result.andThen_ok, Sem.run_pure]

theorem left_list (l : List (α × Value × Nat)) (seen : List Nat) : (leftOf (l.map fun x => (⟨enc x.1, x.2.1, x.2.2⟩ : MapEntry)).toArray seen.toArray).toList = (l.filter fun x => !seen.contains x.2.2).map fun x => (⟨enc x.1, x.2.1, x.2.2⟩ : MapEntry) := by
  unfold leftOf
  simp [List.filter_map, Function.comp_def]

theorem run_next_at {w : World} {r bm c : Nat} {seen : List Nat} {l : List (α × Value × Nat)} (ty : TypeId) (hr : w.heap[r]? = some (itObj bm c seen)) (hb : w.heap[bm]? = some (mobj enc l c)) (hok : MOk l c) :
    ((∀ e ∈ l, e.2.2 ∈ seen) ∧ (Instr.next (.pointer (some ⟨r, 0, none⟩)) false ty).run P w = .ok (.tuple #[.bool false]) w) ∨
    ∃ e ∈ l, e.2.2 ∉ seen ∧ ∃ w1 : World, w1.heap = w.heap ∧ w1.os = w.os ∧ w1.tape = w.tape ∧ w1.output = w.output ∧ w.drawn ≤ w1.drawn ∧ (Instr.next (.pointer (some ⟨r, 0, none⟩)) false ty).run P w = .ok (.tuple #[.bool true, enc e.1, e.2.1]) { w1 with heap := w1.heap.setIfInBounds r (itObj bm c (seen ++ [e.2.2])) } := by
  have hold : ∀ x ∈ ((l.map fun x => (⟨enc x.1, x.2.1, x.2.2⟩ : MapEntry)).toArray).toList, x.born < c := fun x hx => by
    simp at hx
    obtain ⟨a, b, s, h, rfl⟩ := hx
    exact hok.old _ h
  simp only [Instr.next, getObj, Sem.run_bind, Sem.run, hr, hb, Result.andThen, next_test_false seen.toArray _ c c hold (Nat.le_refl _), Bool.false_eq_true, if_false]
  have hL := left_list (enc := enc) l seen
  unfold leftOf at hL
  have hmem : ∀ x ∈ (Array.filter (fun e => !seen.toArray.contains e.born) (l.map fun x => (⟨enc x.1, x.2.1, x.2.2⟩ : MapEntry)).toArray).toList, x.born < c := fun x hx => hold x (by simp at hx ⊢; exact hx.1)
  generalize Array.filter (fun e => !seen.toArray.contains e.born) (l.map fun x => (⟨enc x.1, x.2.1, x.2.2⟩ : MapEntry)).toArray = L at hL hmem ⊢
  have e1 : L.filter (fun x => decide (x.born < c)) = L := Array.filter_eq_self.2 (fun x hx => by simpa using hmem x (by simpa using hx))
  have e2 : L.filter (fun x => decide (x.born ≥ c)) = #[] := by
    rw [Array.filter_eq_empty_iff]
    intro x hx
    have := hmem x (by simpa using hx)
    simp; omega
  simp only [e1, e2, Array.append_empty]
  by_cases h0 : L.size = 0
  · left
    have : L = #[] := Array.eq_empty_of_size_eq_zero h0
    subst this
    refine ⟨fun e he => ?_, by simp [choose, Sem.run, Question.forced]⟩
    have hL' := hL.symm
    simp only [List.map_eq_nil_iff] at hL'
    rw [List.filter_eq_nil_iff] at hL'
    have := hL' e he
    simpa using this
  · right
    have hne : L.isEmpty = false := by simp [Array.isEmpty, h0]
    simp only [hne, Bool.false_eq_true, if_false, Array.empty_append, Array.size_map]
    have hch : ∃ (j : Nat) (w1 : World), j < L.size ∧ w1.heap = w.heap ∧ w1.os = w.os ∧ w1.tape = w.tape ∧ w1.output = w.output ∧ w.drawn ≤ w1.drawn ∧ (choose (Question.mapNext L.size)).run P w = .ok j w1 := by
      by_cases hf : L.size ≤ 1
      · exact ⟨0, w, by omega, rfl, rfl, rfl, rfl, Nat.le_refl _, by simp [choose, Sem.run, Question.forced, hf]⟩
      · exact ⟨_, w.drew, Nat.mod_lt _ (by omega), rfl, rfl, rfl, rfl, Nat.le_succ _, by
          simp only [choose, Sem.run, Question.forced, decide_eq_true_eq, hf, if_false, Question.cut]
          rfl⟩
    obtain ⟨j, w1, hj, q1, q2, q3, q4, q5, hrun⟩ := hch
    have hLj : L[j] ∈ L.toList := by simp
    rw [hL] at hLj
    obtain ⟨e, he, hee⟩ := List.mem_map.1 hLj
    obtain ⟨he1, he2⟩ := List.mem_filter.1 he
    refine ⟨e, he1, by simpa using he2, w1, q1, q2, q3, q4, q5, ?_⟩
    have hset : (setObj r (itObj bm c (seen ++ [e.2.2]))).run P w1 = .ok () { w1 with heap := w1.heap.setIfInBounds r (itObj bm c (seen ++ [e.2.2])) } := by
      simp only [setObj, Sem.run]
      rw [q1, hr]
    have hps : seen.toArray.push L[j].born = (seen ++ [e.2.2]).toArray := by rw [← hee]; simp
    simp only [hrun, Array.getElem?_map, Array.getElem?_eq_getElem hj, Option.map_some, Sem.run_bind, hps, hset, Result.andThen]
    rw [← hee]
    rfl

theorem o_next {x : Operand} {r bm c : Nat} {seen : List Nat} {l : List (α × Value × Nat)} {f f' : Seg → List Seg} (hok : MOk l c) (hx : ev env x = some (.pointer (some ⟨r, 0, none⟩))) [hA : At segs r (itObj bm c seen) f] [hB : At segs bm (mobj enc l c) f']
    (kend : (∀ e ∈ l, e.2.2 ∈ seen) → K (.tuple #[.bool false]) segs) (kmore : ∀ e ∈ l, e.2.2 ∉ seen → K (.tuple #[.bool true, enc e.1, e.2.1]) (f [(r, itObj bm c (seen ++ [e.2.2]))])) :
    Does P n S w0 env segs ⟨d, .next x false, ty, pos, af, g⟩ K :=
  does_of fun a w ha hp => by
    have hr := hp.own r _ hA.mem
    have hb := hp.own bm _ hB.mem
    obtain ⟨L, R, e1, e2⟩ := hA.flat
    rcases run_next_at (P := P) (enc := enc) ty hr hb hok with ⟨h1, h2⟩ | ⟨e, he, hne, w1, q1, q2, q3, q4, q5, h2⟩
    · exact ⟨_, _, w, .inl (by simp [execOp, ha.eval hx, h2]), hp, kend h1⟩
    · refine ⟨_, _, { w1 with heap := w1.heap.setIfInBounds r (itObj bm c (seen ++ [e.2.2])) }, .inl (by simp [execOp, ha.eval hx, h2]), ?_, kmore e he hne⟩
      rw [e2]
      rw [e1] at hp
      have hlt : r < w.heap.size := by
        rcases Nat.lt_or_ge r w.heap.size with h' | h'
        · exact h'
        · rw [Array.getElem?_eq_none h'] at hr; cases hr
      refine hp.put (by exact q2) (by exact q3) (by exact q4) (by simp [q1]) (by exact q5) (by simp [q1, hlt]) (fun k hk => ?_)
      have : r ≠ k := fun e => hk e.symm
      simp [q1, Array.getElem?_setIfInBounds, this]

/-- What a step of the iterator says. -/
def Nx (l : List (α × Value × Nat)) (seen : List Nat) (b : Bool) (seen' : List Nat) : Prop := (b = true ∧ ∃ e ∈ l, e.2.2 ∉ seen ∧ seen' = seen ++ [e.2.2]) ∨ (b = false ∧ seen' = seen ∧ ∀ e ∈ l, e.2.2 ∈ seen)

theorem o_next1 {x : Operand} {r bm c : Nat} {seen : List Nat} {l : List (α × Value × Nat)} {f f' : Seg → List Seg} (hok : MOk l c) (hx : ev env x = some (.pointer (some ⟨r, 0, none⟩))) [hA : At segs r (itObj bm c seen) f] [hB : At segs bm (mobj enc l c) f']
    (kk : ∀ (b : Bool) (rest : List Value) (seen' : List Nat), Nx l seen b seen' → K (.tuple (.bool b :: rest).toArray) (f [(r, itObj bm c seen')])) :
    Does P n S w0 env segs ⟨d, .next x false, ty, pos, af, g⟩ K :=
  o_next hok hx (fun h => by
    have e : f [(r, itObj bm c seen)] = segs := by
      obtain ⟨L, R, e1, e2⟩ := hA.eq
      rw [e1, e2]
    have := kk false [] seen (.inr ⟨rfl, rfl, h⟩)
    rwa [e] at this) fun e he hne => kk true [enc e.1, e.2.1] _ (.inl ⟨rfl, e, he, hne, rfl⟩)

theorem o_entry {x : Operand} {r bm c : Nat} {seen : List Nat} {l : List (α × Value × Nat)} {e : α × Value × Nat} {f f' : Seg → List Seg} (hok : MOk l c) (he : e ∈ l) (hx : ev env x = some (.pointer (some ⟨r, 0, none⟩))) [hA : At segs r (itObj bm c (seen ++ [e.2.2])) f] [hB : At segs bm (mobj enc l c) f'] :
    Pure P n S w0 env segs ⟨d, .entry x, ty, pos, af, g⟩ (.tuple #[enc e.1, e.2.1]) :=
  fun a w ha hp => by
    have hr := hp.own r _ hA.mem
    have hb := hp.own bm _ hB.mem
    have hf : ((l.map fun x => (⟨enc x.1, x.2.1, x.2.2⟩ : MapEntry)).toArray).find? (·.born == e.2.2) = some ⟨enc e.1, e.2.1, e.2.2⟩ := by
      rw [← Array.find?_toList]
      exact find_born ⟨enc e.1, e.2.1, e.2.2⟩ _ (by simp only [List.map_map]; exact hok.born) (List.mem_map.2 ⟨e, he, rfl⟩)
    have hbk : (seen ++ [e.2.2]).toArray.back? = some e.2.2 := by simp
    have : (Instr.entry (.pointer (some ⟨r, 0, none⟩))).run P w = .ok (.tuple #[enc e.1, e.2.1]) w := by
      simp only [Instr.entry, getObj, Sem.run_bind, Sem.run, hr, hb, Result.andThen, hbk, bne_self_eq_false, Bool.false_eq_true, if_false, hf]
      rfl
    simp [execOp, ha.eval hx, this]

theorem o_makeC {T E sz bytes : Nat} {z : List Value} {x y : Operand} {kx ky : IntKind} {N : Int} (hT : ElT P T E sz bytes z) (hx : ev env x = some (.int kx 0)) (hy : ev env y = some (.int ky N)) (m : Nat) (hm : N = (m : Int)) (hb : bytes * m ≤ 281474976710656)
    (hN : m ≤ 9223372036854775807) (kk : ∀ b, K (.slice (some ⟨b, 0, none⟩) 0 m) ([(b, blk (List.replicate m z).flatten E)] :: segs)) : Does P n S w0 env segs ⟨d, .makeSlice T x y, ty, pos, af, g⟩ K :=
  does_of fun a w ha hp => by
    obtain ⟨i, v, hi, hz, hc, rfl, rfl⟩ := hT.i
    subst hm
    have hr := run_make (P := P) w T E i v hT.und hi hz kx ky 0 m (by omega) (by omega) (by rw [← Int.natCast_mul]; omega) (by omega)
    rw [Int.toNat_natCast, hc, ← hT.len, madeCells_flat z m (by rw [hT.len]; exact hT.pos)] at hr
    refine ⟨.slice (some ⟨w.heap.size, 0, none⟩) 0 m, [(w.heap.size, blk (List.replicate m z).flatten E)] :: segs, w.alloc (blk (List.replicate m z).flatten E), .inl ?_, hp.alloc _, kk w.heap.size⟩
    simp only [execOp, ha.eval hx, ha.eval hy, hr, Sem.run_bind, Result.andThen_ok, Sem.run_pure]
    rfl

/-- An array's slice. -/
theorem o_sliceA {T E n' sz b : Nat} {x : Operand} (hT : P.underlying T = some (.array n' E)) (hs : ∀ w, (Go.sizeOf E).run P w = .ok sz w) (hx : ev env x = some (.pointer (some ⟨b, 0, none⟩))) : Pure P n S w0 env segs ⟨d, .slice T x none none none, ty, pos, af, g⟩ (.slice (some ⟨b, 0, none⟩) n' n') :=
  fun a w ha _ => by
    simp [execOp, Instr.sliceAt, run_underlying hT, ha.eval hx, Instr.sureAddr, Instr.sliceBounds, hs, Sem.run_bind, Addr.add]
end
end Go.Proofs.Ytbjiejhdgkpjcaa.Fly

/- natcut.Fragments: what a graph falls into where pairs are marked. -/
namespace Go.Proofs.Ytbjiejhdgkpjcaa
open Go Go.RowKit Fly
set_option linter.unusedVariables false
set_option linter.unusedSimpArgs false


theorem Meets.flatN {P : Program} {f : FuncId} {args : List Value} {w : World} {own : List Seg} {Φ Ψ : Value → List Seg → Prop}
    (h : Meets P f args w own Φ) (hi : ∀ v m, Φ v m → ∃ m', Ψ v m' ∧ m'.flatten = m.flatten) : Meets P f args w own Ψ :=
  Calls.mono h fun _ _ ⟨v, m, he, hp, hf⟩ => by
    obtain ⟨m', h1, h2⟩ := hi v m hf
    exact ⟨v, m', he, by rw [h2]; exact hp, h1⟩
def natN (p : List Nat) : List Int := p.map fun x : Nat => (x : Int)
theorem natN_len (p : List Nat) : (natN p).length = p.length := by simp [natN]
theorem natN_ints (p : List Nat) : nats p = ints (natN p) := by simp [nats, natN, ints]
/-- What is wrong with marks. -/
def fE (N : Int) : List Pr → Int
  | [] => 0
  | p :: r => if (p.1 < 0 ∨ N ≤ p.1) ∨ p.2 < 0 ∨ N ≤ p.2 then 5 else if p.2 ≤ p.1 then 4 else fE N r
def fragE (N : Int) (l : List Arc) (M : List Pr) : Int := if (gcheck N l).2 ≠ 0 then (gcheck N l).2 else if 16384 < M.length then 2 else fE N M
/-- The arcs that are not marked. -/
def keepA (M : List Pr) (l : List Arc) : List Arc := l.filter fun a => !decide (prOf a ∈ M)
theorem fE_drop {N : Int} {M : List Pr} {k : Nat} (hk : k < M.length) : fE N (M.drop k) = if (M[k].1 < 0 ∨ N ≤ M[k].1) ∨ M[k].2 < 0 ∨ N ≤ M[k].2 then 5 else if M[k].2 ≤ M[k].1 then 4 else fE N (M.drop (k + 1)) := by
  rw [← List.getElem_cons_drop hk]; rfl
theorem u64_ge {x N : Int} (hx : I64 x) (hN : I64 N) (h0 : 0 ≤ N) : IntKind.u64.wrap N ≤ IntKind.u64.wrap x ↔ x < 0 ∨ N ≤ x := by
  rw [wrap_u64_of hx, wrap_u64_of hN]
  unfold I64 at hx hN
  split <;> split <;> omega
structure MkI (ps : List Pr) (ents : List ((Int × Int) × Value × Nat)) : Prop where
  yes : ∀ q ∈ ps, ∃ c : Int, mget ents q = some (.int .i64 c) ∧ 1 ≤ c ∧ c ≤ (ps.length : Int)
  no : ∀ q, q ∉ ps → mget ents q = none
theorem MkI.nil : MkI [] [] where
  yes := fun q hq => by cases hq
  no := fun q _ => rfl
theorem MkI.val {ps : List Pr} {ents : List ((Int × Int) × Value × Nat)} (h : MkI ps ents) (q : Pr) : ∃ c : Int, (mget ents q).getD (.int .i64 0) = .int .i64 c ∧ 0 ≤ c ∧ c ≤ (ps.length : Int) ∧ (c = 0 ↔ q ∉ ps) := by
  by_cases hq : q ∈ ps
  · obtain ⟨c, h1, h2, h3⟩ := h.yes q hq
    exact ⟨c, by rw [h1]; rfl, by omega, h3, by constructor; intro e; omega; intro e; exact absurd hq e⟩
  · exact ⟨0, by rw [h.no q hq]; rfl, by omega, by omega, by simp [hq]⟩
theorem MkI.add {ps : List Pr} {ents : List ((Int × Int) × Value × Nat)} (h : MkI ps ents) {q : Pr} {c : Int} (hc : (mget ents q).getD (.int .i64 0) = .int .i64 c) (h0 : 0 ≤ c) (h1 : c ≤ (ps.length : Int)) (k : Nat) : MkI (ps ++ [q]) (mput ents q (.int .i64 (c + 1)) k) where
  yes := fun x hx => by
    rw [mget_put]
    by_cases e : x = q
    · rw [if_pos e]; exact ⟨_, rfl, by omega, by simp; omega⟩
    · rw [if_neg e]
      rcases List.mem_append.1 hx with hx | hx
      · obtain ⟨d, h2, h3, h4⟩ := h.yes x hx
        exact ⟨d, h2, h3, by simp; omega⟩
      · exact absurd (List.mem_singleton.1 hx) e
  no := fun x hx => by
    rw [mget_put, if_neg (fun e => hx (by simp [e]))]
    exact h.no x fun hm => hx (by simp [hm])
theorem mget_appN {α : Type} [DecidableEq α] (x : α) (z : Value) (c : Nat) : ∀ l : List (α × Value × Nat), mget l x = none → mget (l ++ [(x, z, c)]) x = some z
  | [], _ => by simp [mget]
  | e :: r, h => by
    unfold mget at h
    split at h
    · cases h
    · rename_i hne
      rw [List.cons_append]; unfold mget; rw [if_neg hne]; exact mget_appN x z c r h
theorem ment_valN {α : Type} [DecidableEq α] (l : List (α × Value × Nat)) (x : α) (z : Value) (c : Nat) : (mget (ment l x z c) x).getD z = (mget l x).getD z := by
  unfold ment
  split
  · rfl
  · rename_i h
    have h' : mget l x = none := by cases hg : mget l x with
      | none => rfl
      | some v => rw [hg] at h; simp at h
    rw [mget_appN x z c l h', h']; rfl
theorem keepA_yes {M : List Pr} {l : List Arc} {i : Nat} (hi : i < l.length) (h : prOf l[i] ∉ M) : keepA M (l.take (i + 1)) = keepA M (l.take i) ++ [l[i]] := by
  unfold keepA; rw [List.take_succ_eq_append_getElem hi, List.filter_append]; simp [h]
theorem keepA_no {M : List Pr} {l : List Arc} {i : Nat} (hi : i < l.length) (h : prOf l[i] ∈ M) : keepA M (l.take (i + 1)) = keepA M (l.take i) := by
  unfold keepA; rw [List.take_succ_eq_append_getElem hi, List.filter_append]; simp [h]
theorem keepA_len (M : List Pr) (l : List Arc) : (keepA M l).length ≤ l.length := List.length_filter_le _ _
theorem keepA_good {n : Nat} {l : List Arc} (hg : (gcheck (n : Int) l).2 = 0) (M : List Pr) : (gcheck (n : Int) (keepA M l)).2 = 0 := by
  obtain ⟨h1, h2, h3, h4⟩ := gcheck_zero hg
  rw [gcheck_ok ⟨by omega, by omega⟩ (by have := keepA_len M l; omega) fun j hj => ?_]
  have hm := (List.mem_filter.1 (List.getElem_mem hj)).1
  obtain ⟨i, hi, e⟩ := List.mem_iff_getElem.1 hm
  have := h4 i hi
  rw [e] at this
  unfold arcBad; simp; omega
theorem keepA_ok {l : List Arc} (M : List Pr) (hok : ∀ x ∈ l, ArcOk x) : ∀ x ∈ keepA M l, ArcOk x := fun x hx => hok x (List.mem_filter.1 hx).1


theorem PartsN_spec (N : Int) (A : Option Addr) (l : List Arc) (cap : Nat) (w : World) (hr : Ro (Fr w []) w A (l.flatMap arcCs)) (hl : l.length ≤ 9223372036854775807) (hN : I64 N) (hok : ∀ x ∈ l, ArcOk x) :
    Meets Try.prog 26 [.agg #[.int .i64 N, .slice A l.length cap]] w [] (fun u own' => ∃ (P : List Int) (A' : Option Addr) (c : Nat) (m' : Seg), u = .tuple #[.slice A' P.length c, .int .i64 (gcheck N l).2] ∧ own' = [m'] ∧ Own 3 1 (.slice A' P.length c) P.length (ints P) m' ∧ ((gcheck N l).2 = 0 → ∃ p, P = natN p ∧ IsParts N.toNat (ends2 l) p) ∧ ((gcheck N l).2 ≠ 0 → P = [])) := by
  refine Meets.flatN (Parts_spec N A l cap w hr hl hN hok) fun v m h => ?_
  by_cases hg : (gcheck N l).2 = 0
  · rw [if_pos hg] at h
    obtain ⟨p, b, rfl, rfl, hp⟩ := h
    have hlen : (natN p).length = N.toNat := by rw [natN_len, hp.len]
    have hb := gcheck_zero hg
    refine ⟨_, ⟨natN p, some ⟨b, 0, none⟩, N.toNat, [(b, blk (nats p) 3)], by rw [hlen, hg], rfl, ?_, fun _ => ⟨p, rfl, hp⟩, fun h => absurd hg h⟩, rfl⟩
    rw [natN_ints, hlen]
    exact Own.mk (by rw [ints_length, hlen]; omega) (by omega)
  · rw [if_neg hg] at h
    obtain ⟨rfl, rfl⟩ := h
    exact ⟨[[]], ⟨[], none, 0, [], rfl, rfl, Own.nil _ _, fun h => absurd h hg, fun _ => rfl⟩, rfl⟩

set_option maxRecDepth 100000 in
set_option maxHeartbeats 4000000 in
theorem Fragments_spec (N : Int) (A B : Option Addr) (l : List Arc) (cap : Nat) (M : List Pr) (cb : Nat) (w : World) (hr : Ro (Fr w []) w A (l.flatMap arcCs)) (hl : l.length ≤ 9223372036854775807) (hN : I64 N) (hok : ∀ x ∈ l, ArcOk x) (hM : Ro (Fr w []) w B (M.flatMap prCs)) (hm : M.length ≤ 9223372036854775807) (hMk : ∀ p ∈ M, I64 p.1 ∧ I64 p.2) :
    Meets Try.prog 15 [.agg #[.int .i64 N, .slice A l.length cap], .slice B M.length cb] w [] (fun u own' => ∃ (P : List Int) (A' : Option Addr) (c : Nat) (m' : Seg), u = .tuple #[.slice A' P.length c, .int .i64 (fragE N l M)] ∧ own' = [m'] ∧ Own 3 1 (.slice A' P.length c) P.length (ints P) m' ∧ (fragE N l M = 0 → ∃ p, P = natN p ∧ IsParts N.toNat (ends2 (keepA M l)) p) ∧ (fragE N l M ≠ 0 → P = [])) := by
 refine f_enter Try.func15 rfl Try.ntmps15 rfl Owns.nil ?_
 refine f_seq fun K1 kh1 => ?_
 refine f_region ?_
 refine f_step rfl rfl rfl (o_box rfl rfl fun b2 => ?_)
 refine f_stepP rfl rfl rfl (o_assign rfl) ?_
 refine f_stepP rfl rfl rfl (o_assign rfl) ?_
 refine f_done ?_
 refine f_tn (kh1 _ _ ?_)
 clear kh1
 refine f_seq fun K2 kh2 => ?_
 refine f_seq fun K3 kh3 => ?_
 refine f_region ?_
 refine f_stepP rfl rfl rfl (o_loadA (vs := [_, _]) Try.isAgg24 Try.sizeOf24 rfl rfl ⟨(rdA rfl), (rdA rfl), trivial⟩) ?_
 refine f_step rfl rfl rfl (o_call Try.call37 rfl (fun w_ hp_ => Check_spec N A l cap w_ (hr.up0 hp_) hl hN hok) ?_)
 rintro _ _ ⟨rfl, rfl⟩
 dsimp only [List.cons_append, List.nil_append]
 refine f_stepP rfl rfl rfl (o_move rfl) ?_
 refine f_stepP rfl rfl rfl (o_extract rfl rfl) ?_
 refine f_stepP rfl rfl rfl (o_extract rfl rfl) ?_
 refine f_stepP rfl rfl rfl (o_assign rfl) ?_
 refine f_stepP rfl rfl rfl (o_assign rfl) ?_
 refine f_done ?_
 refine f_tn (kh3 _ _ ?_)
 clear kh3
 refine f_seq fun K4 kh4 => ?_
 refine f_region ?_
 refine f_stepP rfl rfl rfl (o_move rfl) ?_
 refine f_stepP rfl rfl rfl (o_neq rfl rfl) ?_
 refine f_done ?_
 refine f_tn (kh4 _ _ ?_)
 clear kh4
 refine f_cond rfl (fun c20 => ?_) (fun c20 => ?_)
 ·
  refine f_seq fun K5 kh5 => ?_
  refine f_region ?_
  refine f_stepP rfl rfl rfl (o_move rfl) ?_
  refine f_stepP rfl rfl rfl (o_assign rfl) ?_
  refine f_stepP rfl rfl rfl (o_assign rfl) ?_
  refine f_done ?_
  refine f_tn (kh5 _ _ ?_)
  clear kh5
  refine f_ret ?_
  refine f_tr ?_
  have c20' : (gcheck N l).2 ≠ 0 := by simpa using c20
  have hfe : fragE N l M = (gcheck N l).2 := by unfold fragE; rw [if_pos c20']
  exact f_fin2 [[]] Try.results15 rfl rfl (show Fly.Sub _ [[]] from (by repeat (first | exact Sub.nil | refine Sub.pick ?_ | refine Sub.castO rfl ?_ | refine Sub.skip ?_))) ⟨[], none, 0, [], by rw [hfe]; rfl, rfl, Own.nil _ _, fun h => absurd (hfe.symm.trans h) c20', fun _ => rfl⟩
 ·
  have hg : (gcheck N l).2 = 0 := by simpa using c20
  obtain ⟨hg1, hg2, hgl, hgd⟩ := gcheck_zero hg
  obtain ⟨n, rfl⟩ : ∃ n : Nat, N = (n : Int) := ⟨N.toNat, by omega⟩
  refine f_skip ?_
  refine f_tn (kh2 _ _ ?_)
  clear kh2
  refine f_seq fun K6 kh6 => ?_
  refine f_seq fun K7 kh7 => ?_
  refine f_region ?_
  refine f_stepP rfl rfl rfl (o_move rfl) ?_
  refine f_stepP rfl rfl rfl (o_len sl28 rfl) ?_
  refine f_stepP rfl rfl rfl (o_gtr rfl rfl) ?_
  refine f_done ?_
  refine f_tn (kh7 _ _ ?_)
  clear kh7
  refine f_cond rfl (fun c24 => ?_) (fun c24 => ?_)
  ·
   refine f_seq fun K8 kh8 => ?_
   refine f_region ?_
   refine f_stepP rfl rfl rfl (o_assign rfl) ?_
   refine f_stepP rfl rfl rfl (o_assign rfl) ?_
   refine f_done ?_
   refine f_tn (kh8 _ _ ?_)
   clear kh8
   refine f_ret ?_
   refine f_tr ?_
   have hfe : fragE (n : Int) l M = 2 := by unfold fragE; rw [if_neg (by rw [hg]; simp), if_pos (by omega)]
   exact f_fin2 [[]] Try.results15 rfl rfl (show Fly.Sub _ [[]] from (by repeat (first | exact Sub.nil | refine Sub.pick ?_ | refine Sub.castO rfl ?_ | refine Sub.skip ?_))) ⟨[], none, 0, [], by rw [hfe]; rfl, rfl, Own.nil _ _, fun h => absurd (hfe.symm.trans h) (by decide), fun _ => rfl⟩
  ·
   refine f_skip ?_
   refine f_tn (kh6 _ _ ?_)
   clear kh6
   refine f_seq fun K9 kh9 => ?_
   refine f_region ?_
   refine f_step rfl rfl rfl (o_makeMap fun b25 => ?_)
   refine f_stepP rfl rfl rfl (o_assign rfl) ?_
   refine f_done ?_
   refine f_tn (kh9 _ _ ?_)
   clear kh9
   refine f_seq fun K10 kh10 => ?_
   refine f_seq fun K11 kh11 => ?_
   refine f_region ?_
   refine f_stepP rfl rfl rfl (o_move rfl) ?_
   refine f_stepP rfl rfl rfl (o_len sl28 rfl) ?_
   refine f_stepP rfl rfl rfl (o_move rfl) ?_
   refine f_done ?_
   refine f_tn (kh11 _ _ ?_)
   clear kh11
   refine f_block ?_
   refine f_loop (α := Nat × List ((Int × Int) × Value × Nat) × Nat) [2, 8, 26, 27] (fun ⟨k, ents, c1⟩ => [(28, .int .i64 (k : Int))]) (fun ⟨k, ents, c1⟩ => [[(b25, mobj enc2 ents c1)], [(b2, blk [.int .i64 (n : Int), .slice A l.length cap] 24)]]) (fun ⟨k, ents, c1⟩ => k ≤ M.length ∧ MOk ents c1 ∧ MkI (M.take k) ents ∧ fE (n : Int) M = fE (n : Int) (M.drop k)) (fun ⟨k, ents, c1⟩ => M.length - k) (0, [], 0) ?_ ?_ ?_ ?_
   · exact (by repeat (first | exact trivial | refine ⟨rfl, ?_⟩))
   · repeat (first | exact Sub.nil | refine Sub.pick ?_ | refine Sub.castO rfl ?_ | refine Sub.skip ?_)
   · exact ⟨by omega, MOk.nil, MkI.nil, rfl⟩
   ·
    rintro ⟨k, ents, c1⟩ ⟨hkl, hmap, hmk, hfe⟩
    refine f_seq fun K12 kh12 => ?_
    refine f_region ?_
    refine f_stepP rfl rfl rfl (o_lss rfl rfl) ?_
    refine f_done ?_
    refine f_tn (kh12 _ _ ?_)
    clear kh12
    refine f_seq fun K13 kh13 => ?_
    refine f_cond rfl (fun c29 => ?_) (fun c29 => ?_)
    ·
     have hk : k < M.length := by omega
     obtain ⟨bp, op, rfl, hSp, hcp⟩ := hM (flat_ne prCs prCs_len (by omega) hk)
     have hMi := hMk _ (List.getElem_mem hk)
     have hw1 := u64_ge hMi.1 hN (by omega)
     have hw2 := u64_ge hMi.2 hN (by omega)
     have hdr := fE_drop (N := (n : Int)) hk
     obtain ⟨c, hc, hc0, hc1, _⟩ := hmk.val M[k]
     have htk : M.take (k + 1) = M.take k ++ [M[k]] := List.take_succ_eq_append_getElem hk
     have hti : (M.take k).length = k := by rw [List.length_take]; omega
     have hmk2 := hmk.add hc hc0 hc1 c1
     rw [← htk] at hmk2
     rw [hti] at hc1
     refine f_skip ?_
     refine f_tn (kh13 _ _ ?_)
     clear kh13
     refine f_seq fun K14 kh14 => ?_
     refine f_block ?_
     refine f_seq fun K15 kh15 => ?_
     refine f_region ?_
     refine f_stepP rfl rfl rfl (o_idx sl28 rfl rfl (op + k * 2) ⟨by omega, by omega, by first | omega | (simp; done) | (simp; omega)⟩) ?_
     refine f_stepP rfl rfl rfl (o_loadA (vs := prCs M[k]) Try.isAgg47 Try.sizeOf47 rfl rfl (roElem prCs_len hSp hcp hk)) ?_
     refine f_step rfl rfl rfl (o_alloc Try.zeroValue47 rfl fun b10 => ?_)
     refine f_step0 rfl rfl (o_storeA Try.sizeOf47 rfl rfl rfl rfl (by first | exact Nat.le_of_ble_eq_true rfl | (simp; done) | (simp; omega)) (prCs M[k]) rfl ?_)
     refine f_done ?_
     refine f_tn (kh15 _ _ ?_)
     clear kh15
     refine f_seq fun K16 kh16 => ?_
     refine f_block ?_
     refine f_seq fun K17 kh17 => ?_
     refine f_region ?_
     refine f_stepP rfl rfl rfl (o_field fa47_0 rfl) ?_
     refine f_stepP rfl rfl rfl (o_load Try.isAgg3 rfl (rdA rfl)) ?_
     refine f_stepP rfl rfl rfl (o_conv Try.runUnderlying3 Try.runUnderlying72 rfl _ rfl) ?_
     refine f_stepP rfl rfl rfl (o_field fa24_0 rfl) ?_
     refine f_stepP rfl rfl rfl (o_load Try.isAgg3 rfl (rdA rfl)) ?_
     refine f_stepP rfl rfl rfl (o_conv Try.runUnderlying3 Try.runUnderlying72 rfl _ rfl) ?_
     refine f_stepP rfl rfl rfl (o_geq rfl rfl) ?_
     refine f_stepP rfl rfl rfl (o_move rfl) ?_
     refine f_splitL 40 rfl (fun g40 => ?_) (fun g40 => ?_)
     ·
      refine f_stepN rfl rfl rfl rfl rfl rfl ?_
      refine f_stepN rfl rfl rfl rfl rfl rfl ?_
      refine f_stepN rfl rfl rfl rfl rfl rfl ?_
      refine f_stepN rfl rfl rfl rfl rfl rfl ?_
      refine f_stepN rfl rfl rfl rfl rfl rfl ?_
      refine f_stepN rfl rfl rfl rfl rfl rfl ?_
      refine f_stepN rfl rfl rfl rfl rfl rfl ?_
      refine f_stepP rfl rfl rfl (o_pickT rfl rfl) ?_
      refine f_stepP rfl rfl rfl (o_assign rfl) ?_
      refine f_done ?_
      refine f_tn (kh17 _ _ ?_)
      clear kh17
      refine f_condT rfl ?_
      refine f_seq fun K18 kh18 => ?_
      refine f_region ?_
      refine f_stepP rfl rfl rfl (o_assign rfl) ?_
      refine f_stepP rfl rfl rfl (o_assign rfl) ?_
      refine f_done ?_
      refine f_tn (kh18 _ _ ?_)
      clear kh18
      refine f_ret ?_
      refine f_br ?_
      refine f_tr ?_
      refine f_br ?_
      refine f_tr ?_
      refine f_tr ?_
      refine f_br ?_
      refine f_tr ?_
      have hfe : fragE (n : Int) l M = 5 := by unfold fragE; rw [if_neg (by rw [hg]; simp), if_neg (by omega), hfe, hdr, if_pos (by omega)]
      exact f_fin2 [[]] Try.results15 rfl rfl (show Fly.Sub _ [[]] from (by repeat (first | exact Sub.nil | refine Sub.pick ?_ | refine Sub.castO rfl ?_ | refine Sub.skip ?_))) ⟨[], none, 0, [], by rw [hfe]; rfl, rfl, Own.nil _ _, fun h => absurd (hfe.symm.trans h) (by decide), fun _ => rfl⟩
     ·
      refine f_stepPY rfl rfl rfl rfl rfl (o_field fa47_1 rfl) ?_
      refine f_stepPY rfl rfl rfl rfl rfl (o_load Try.isAgg3 rfl (rdA rfl)) ?_
      refine f_stepPY rfl rfl rfl rfl rfl (o_conv Try.runUnderlying3 Try.runUnderlying72 rfl _ rfl) ?_
      refine f_stepPY rfl rfl rfl rfl rfl (o_field fa24_0 rfl) ?_
      refine f_stepPY rfl rfl rfl rfl rfl (o_load Try.isAgg3 rfl (rdA rfl)) ?_
      refine f_stepPY rfl rfl rfl rfl rfl (o_conv Try.runUnderlying3 Try.runUnderlying72 rfl _ rfl) ?_
      refine f_stepPY rfl rfl rfl rfl rfl (o_geq rfl rfl) ?_
      refine f_stepP rfl rfl rfl (o_pickF rfl rfl) ?_
      refine f_stepP rfl rfl rfl (o_assign rfl) ?_
      refine f_done ?_
      refine f_tn (kh17 _ _ ?_)
      clear kh17
      refine f_cond rfl (fun c32 => ?_) (fun c32 => ?_)
      ·
       refine f_seq fun K19 kh19 => ?_
       refine f_region ?_
       refine f_stepP rfl rfl rfl (o_assign rfl) ?_
       refine f_stepP rfl rfl rfl (o_assign rfl) ?_
       refine f_done ?_
       refine f_tn (kh19 _ _ ?_)
       clear kh19
       refine f_ret ?_
       refine f_br ?_
       refine f_tr ?_
       refine f_br ?_
       refine f_tr ?_
       refine f_tr ?_
       refine f_br ?_
       refine f_tr ?_
       have hfe : fragE (n : Int) l M = 5 := by unfold fragE; rw [if_neg (by rw [hg]; simp), if_neg (by omega), hfe, hdr, if_pos (by omega)]
       exact f_fin2 [[]] Try.results15 rfl rfl (show Fly.Sub _ [[]] from (by repeat (first | exact Sub.nil | refine Sub.pick ?_ | refine Sub.castO rfl ?_ | refine Sub.skip ?_))) ⟨[], none, 0, [], by rw [hfe]; rfl, rfl, Own.nil _ _, fun h => absurd (hfe.symm.trans h) (by decide), fun _ => rfl⟩
      ·
       refine f_seq fun K20 kh20 => ?_
       refine f_region ?_
       refine f_stepP rfl rfl rfl (o_field fa47_0 rfl) ?_
       refine f_stepP rfl rfl rfl (o_load Try.isAgg3 rfl (rdA rfl)) ?_
       refine f_stepP rfl rfl rfl (o_field fa47_1 rfl) ?_
       refine f_stepP rfl rfl rfl (o_load Try.isAgg3 rfl (rdA rfl)) ?_
       refine f_stepP rfl rfl rfl (o_geq rfl rfl) ?_
       refine f_stepP rfl rfl rfl (o_assign rfl) ?_
       refine f_done ?_
       refine f_tn (kh20 _ _ ?_)
       clear kh20
       refine f_cond rfl (fun c49 => ?_) (fun c49 => ?_)
       ·
        refine f_seq fun K21 kh21 => ?_
        refine f_region ?_
        refine f_stepP rfl rfl rfl (o_assign rfl) ?_
        refine f_stepP rfl rfl rfl (o_assign rfl) ?_
        refine f_done ?_
        refine f_tn (kh21 _ _ ?_)
        clear kh21
        refine f_ret ?_
        refine f_br ?_
        refine f_tr ?_
        refine f_br ?_
        refine f_tr ?_
        refine f_tr ?_
        refine f_br ?_
        refine f_tr ?_
        have hfe : fragE (n : Int) l M = 4 := by unfold fragE; rw [if_neg (by rw [hg]; simp), if_neg (by omega), hfe, hdr, if_neg (by omega), if_pos (by omega)]
        exact f_fin2 [[]] Try.results15 rfl rfl (show Fly.Sub _ [[]] from (by repeat (first | exact Sub.nil | refine Sub.pick ?_ | refine Sub.castO rfl ?_ | refine Sub.skip ?_))) ⟨[], none, 0, [], by rw [hfe]; rfl, rfl, Own.nil _ _, fun h => absurd (hfe.symm.trans h) (by decide), fun _ => rfl⟩
       ·
        refine f_skip ?_
        refine f_bn ?_
        refine f_tn (kh16 _ _ ?_)
        clear kh16
        refine f_regionH [[(b10, blk [.int .i64 M[k].1, .int .i64 M[k].2] 47)]] rfl ?_
        refine f_take 0 rfl (by decide +kernel) rfl rfl rfl (by repeat (first | exact Sub.nil | refine Sub.pick ?_ | refine Sub.castO rfl ?_ | refine Sub.skip ?_)) (o_move rfl) ?_
        refine f_take 1 rfl (by decide +kernel) rfl rfl rfl (by repeat (first | exact Sub.nil | refine Sub.pick ?_ | refine Sub.castO rfl ?_ | refine Sub.skip ?_)) (o_loadA (vs := prCs M[k]) Try.isAgg47 Try.sizeOf47 rfl rfl ⟨(rdA rfl), (rdA rfl), trivial⟩) ?_
        refine f_two 2 4 rfl rfl (by decide +kernel) rfl rfl rfl rfl rfl rfl ?_ ?_
        ·
         refine (o_lookup kt71 Try.zeroValue3 rfl rfl rfl (key := M[k]) (.int .i64 c) (by first | exact hc | exact (ment_valN _ _ _ _).trans hc)).does ⟨(by repeat (first | exact Sub.nil | refine Sub.pick ?_ | refine Sub.castO rfl ?_ | refine Sub.skip ?_)), ?_⟩
         refine f_take 3 rfl (by decide +kernel) rfl rfl rfl (by repeat (first | exact Sub.nil | refine Sub.pick ?_ | refine Sub.castO rfl ?_ | refine Sub.skip ?_)) (o_add rfl rfl _ (wrap_i64 (by omega))) ?_
         refine f_only 4 rfl (by decide +kernel) rfl rfl rfl (o_mapEntry kt71 Try.zeroValue3 rfl rfl rfl (key := M[k]) _ rfl ⟨(by repeat (first | exact Sub.nil | refine Sub.pick ?_ | refine Sub.castO rfl ?_ | refine Sub.skip ?_)), ?_⟩)
         refine f_take 5 rfl (by decide +kernel) rfl rfl rfl (by repeat (first | exact Sub.nil | refine Sub.pick ?_ | refine Sub.castO rfl ?_ | refine Sub.skip ?_)) (o_extract rfl rfl) ?_
         refine f_only0 6 rfl (by decide +kernel) rfl rfl (o_entryStore (key := M[k]) hmap rfl rfl rfl ⟨(by repeat (first | exact Sub.nil | refine Sub.pick ?_ | refine Sub.castO rfl ?_ | refine Sub.skip ?_)), ?_⟩)
         refine f_over (by decide +kernel) ?_
         refine f_bn ?_
         refine f_tn (kh14 _ _ ?_)
         clear kh14
         refine f_region ?_
         refine f_stepP rfl rfl rfl (o_add rfl rfl _ (wrap_i64 (by omega))) ?_
         refine f_stepP rfl rfl rfl (o_move rfl) ?_
         refine f_done ?_
         refine f_tn (f_again (k + 1, mput ents M[k] (.int .i64 (c + 1)) c1, mclock ents M[k] c1) (by first | omega | (dsimp only; omega) | (simp; omega)) ⟨by omega, hmap.put _ _, hmk2, hfe.trans (hdr.trans (by rw [if_neg (by omega), if_neg (by omega)]))⟩ ?_ ?_ ?_)
         · exact (by repeat (first | exact trivial | refine ⟨rfl, ?_⟩))
         · exact (by repeat (first | exact trivial | refine ⟨rfl, ?_⟩))
         · repeat (first | exact Sub.nil | refine Sub.pick ?_ | refine Sub.castO rfl ?_ | refine Sub.skip ?_)
        ·
         refine (o_mapEntry kt71 Try.zeroValue3 rfl rfl rfl (key := M[k]) _ rfl ⟨(by repeat (first | exact Sub.nil | refine Sub.pick ?_ | refine Sub.castO rfl ?_ | refine Sub.skip ?_)), ?_⟩)
         refine f_take 5 rfl (by decide +kernel) rfl rfl rfl (by repeat (first | exact Sub.nil | refine Sub.pick ?_ | refine Sub.castO rfl ?_ | refine Sub.skip ?_)) (o_extract rfl rfl) ?_
         refine f_only 2 rfl (by decide +kernel) rfl rfl rfl ((o_lookup kt71 Try.zeroValue3 rfl rfl rfl (key := M[k]) (.int .i64 c) (by first | exact hc | exact (ment_valN _ _ _ _).trans hc)).does ⟨(by repeat (first | exact Sub.nil | refine Sub.pick ?_ | refine Sub.castO rfl ?_ | refine Sub.skip ?_)), ?_⟩)
         refine f_take 3 rfl (by decide +kernel) rfl rfl rfl (by repeat (first | exact Sub.nil | refine Sub.pick ?_ | refine Sub.castO rfl ?_ | refine Sub.skip ?_)) (o_add rfl rfl _ (wrap_i64 (by omega))) ?_
         refine f_only0 6 rfl (by decide +kernel) rfl rfl (o_entryStore (key := M[k]) hmap rfl rfl rfl ⟨(by repeat (first | exact Sub.nil | refine Sub.pick ?_ | refine Sub.castO rfl ?_ | refine Sub.skip ?_)), ?_⟩)
         refine f_over (by decide +kernel) ?_
         refine f_bn ?_
         refine f_tn (kh14 _ _ ?_)
         clear kh14
         refine f_region ?_
         refine f_stepP rfl rfl rfl (o_add rfl rfl _ (wrap_i64 (by omega))) ?_
         refine f_stepP rfl rfl rfl (o_move rfl) ?_
         refine f_done ?_
         refine f_tn (f_again (k + 1, mput ents M[k] (.int .i64 (c + 1)) c1, mclock ents M[k] c1) (by first | omega | (dsimp only; omega) | (simp; omega)) ⟨by omega, hmap.put _ _, hmk2, hfe.trans (hdr.trans (by rw [if_neg (by omega), if_neg (by omega)]))⟩ ?_ ?_ ?_)
         · exact (by repeat (first | exact trivial | refine ⟨rfl, ?_⟩))
         · exact (by repeat (first | exact trivial | refine ⟨rfl, ?_⟩))
         · repeat (first | exact Sub.nil | refine Sub.pick ?_ | refine Sub.castO rfl ?_ | refine Sub.skip ?_)
    ·
     obtain rfl : k = M.length := by omega
     rw [List.take_length] at hmk
     rw [List.drop_length] at hfe
     have hfz : fragE (n : Int) l M = 0 := by unfold fragE; rw [if_neg (by rw [hg]; simp), if_neg (by omega), hfe]; rfl
     refine f_exit ?_
     refine f_te ?_
     clear kh13
     refine f_te ?_
     refine f_be ?_
     refine f_tn (kh10 _ _ ?_)
     clear kh10
     refine f_seq fun K22 kh22 => ?_
     refine f_region ?_
     refine f_stepP rfl rfl rfl (o_field fa24_0 rfl) ?_
     refine f_stepP rfl rfl rfl (o_load Try.isAgg3 rfl (rdA rfl)) ?_
     refine f_stepP rfl rfl rfl (o_build (cs := [.int .i64 (n : Int), .slice none 0 0]) st24 rfl rfl) ?_
     refine f_step rfl rfl rfl (o_alloc Try.zeroValue24 rfl fun b11 => ?_)
     refine f_step0 rfl rfl (o_storeA Try.sizeOf24 rfl rfl rfl rfl (by first | exact Nat.le_of_ble_eq_true rfl | (simp; done) | (simp; omega)) [.int .i64 (n : Int), .slice none 0 0] rfl ?_)
     refine f_done ?_
     refine f_tn (kh22 _ _ ?_)
     clear kh22
     refine f_seq fun K23 kh23 => ?_
     refine f_seq fun K24 kh24 => ?_
     refine f_region ?_
     refine f_stepP rfl rfl rfl (o_field fa24_1 rfl) ?_
     refine f_stepP rfl rfl rfl (o_load Try.isAgg22 rfl (rdA rfl)) ?_
     refine f_stepP rfl rfl rfl (o_len sl22 rfl) ?_
     refine f_stepP rfl rfl rfl (o_move rfl) ?_
     refine f_done ?_
     refine f_tn (kh24 _ _ ?_)
     clear kh24
     refine f_block ?_
     refine f_loop (α := Nat × Value × Seg) [8, 11, 66, 67] (fun ⟨i, sa, ma⟩ => [(68, .int .i64 (i : Int))]) (fun ⟨i, sa, ma⟩ => [[(b11, blk [.int .i64 (n : Int), sa] 24)], ma, [(b25, mobj enc2 ents c1)]]) (fun ⟨i, sa, ma⟩ => i ≤ l.length ∧ Own 55 3 sa (keepA M (l.take i)).length ((keepA M (l.take i)).flatMap arcCs) ma) (fun ⟨i, sa, ma⟩ => l.length - i) (0, .slice none 0 0, []) ?_ ?_ ?_ ?_
     · exact (by repeat (first | exact trivial | refine ⟨rfl, ?_⟩))
     · repeat (first | exact Sub.nil | refine Sub.pick ?_ | refine Sub.castO rfl ?_ | refine Sub.skip ?_)
     · exact ⟨by omega, Own.nil _ _⟩
     ·
      rintro ⟨i, sa, ma⟩ ⟨hil, hO⟩
      have hkl2 := keepA_len M (l.take i)
      rw [List.length_take] at hkl2
      obtain ⟨A11, c11, rfl, hc11⟩ := hO.val
      refine f_envC (e := [(68, _), (8, _), (11, _), (66, _), (67, _)]) (by repeat (first | exact trivial | refine ⟨rfl, ?_⟩)) ?_
      refine f_seq fun K25 kh25 => ?_
      refine f_region ?_
      refine f_stepP rfl rfl rfl (o_lss rfl rfl) ?_
      refine f_done ?_
      refine f_tn (kh25 _ _ ?_)
      clear kh25
      refine f_seq fun K26 kh26 => ?_
      refine f_cond rfl (fun c69 => ?_) (fun c69 => ?_)
      ·
       have hi : i < l.length := by omega
       obtain ⟨bl, off, rfl, hS, hcs⟩ := hr (flat_ne arcCs arcCs_len (by omega) hi)
       obtain ⟨c, hc, hc0, hc1, hciff⟩ := hmk.val (prOf l[i])
       refine f_skip ?_
       refine f_tn (kh26 _ _ ?_)
       clear kh26
       refine f_seq fun K27 kh27 => ?_
       refine f_block ?_
       refine f_seq fun K28 kh28 => ?_
       refine f_region ?_
       refine f_stepP rfl rfl rfl (o_idx sl22 rfl rfl (off + i * 3) ⟨by omega, by omega, by first | omega | (simp; done) | (simp; omega)⟩) ?_
       refine f_stepP rfl rfl rfl (o_loadA (vs := arcCs l[i]) Try.isAgg55 Try.sizeOf55 rfl rfl (roElem arcCs_len hS hcs hi)) ?_
       refine f_step rfl rfl rfl (o_alloc Try.zeroValue55 rfl fun b13 => ?_)
       refine f_step0 rfl rfl (o_storeA Try.sizeOf55 rfl rfl rfl rfl (by first | exact Nat.le_of_ble_eq_true rfl | (simp; done) | (simp; omega)) (arcCs l[i]) rfl ?_)
       refine f_done ?_
       refine f_tn (kh28 _ _ ?_)
       clear kh28
       refine f_seq fun K29 kh29 => ?_
       refine f_region ?_
       refine f_stepP rfl rfl rfl (o_move rfl) ?_
       refine f_stepP rfl rfl rfl (o_field fa55_0 rfl) ?_
       refine f_stepP rfl rfl rfl (o_load Try.isAgg3 rfl (rdA rfl)) ?_
       refine f_stepP rfl rfl rfl (o_field fa55_1 rfl) ?_
       refine f_stepP rfl rfl rfl (o_load Try.isAgg3 rfl (rdA rfl)) ?_
       refine f_stepP rfl rfl rfl (o_min rfl rfl) ?_
       refine f_stepP rfl rfl rfl (o_field fa55_0 rfl) ?_
       refine f_stepP rfl rfl rfl (o_load Try.isAgg3 rfl (rdA rfl)) ?_
       refine f_stepP rfl rfl rfl (o_field fa55_1 rfl) ?_
       refine f_stepP rfl rfl rfl (o_load Try.isAgg3 rfl (rdA rfl)) ?_
       refine f_stepP rfl rfl rfl (o_max rfl rfl) ?_
       refine f_stepP rfl rfl rfl (o_build (cs := [.int .i64 (min l[i].src l[i].dst), .int .i64 (max l[i].src l[i].dst)]) st47 rfl rfl) ?_
       refine f_stepP rfl rfl rfl (o_lookup kt71 Try.zeroValue3 rfl rfl rfl (key := prOf l[i]) (.int .i64 c) hc) ?_
       refine f_stepP rfl rfl rfl (o_eql rfl rfl) ?_
       refine f_done ?_
       refine f_tn (kh29 _ _ ?_)
       clear kh29
       refine f_cond rfl (fun c85 => ?_) (fun c85 => ?_)
       ·
        have hni : prOf l[i] ∉ M := hciff.1 (by simpa using c85)
        have hky := keepA_yes hi hni
        refine f_region ?_
        refine f_stepP rfl rfl rfl (o_field fa24_1 rfl) ?_
        refine f_stepP rfl rfl rfl (o_load Try.isAgg22 rfl (rdA rfl)) ?_
        refine f_stepP rfl rfl rfl (o_loadA (vs := [_, _, _]) Try.isAgg55 Try.sizeOf55 rfl rfl ⟨(rdA rfl), (rdA rfl), (rdA rfl), trivial⟩) ?_
        refine f_step rfl rfl rfl (o_slice1 el22 (by omega) rfl rfl rfl fun b89 => ?_)
        refine f_step rfl rfl rfl (o_append el22 rfl rfl hO (ys := arcCs l[i]) ⟨(rdA rfl), (rdA rfl), (rdA rfl), trivial⟩ rfl rfl (by omega) (by omega) fun v90 m90 o90 => ?_)
        obtain ⟨A90, c90, rfl, _⟩ := o90.val
        refine f_stepP rfl rfl rfl (o_field fa24_1 rfl) ?_
        refine f_step0 rfl rfl (o_store Try.sizeOf22 rfl rfl rfl rfl (by first | exact Nat.le_of_ble_eq_true rfl | (simp; done) | (simp; omega)) [.int .i64 (n : Int), .slice A90 ((keepA M (l.take i)).length + 1) c90] rfl ?_)
        refine f_done ?_
        refine f_bn ?_
        refine f_tn (kh27 _ _ ?_)
        clear kh27
        refine f_region ?_
        refine f_stepP rfl rfl rfl (o_add rfl rfl _ (wrap_i64 (by omega))) ?_
        refine f_stepP rfl rfl rfl (o_move rfl) ?_
        refine f_done ?_
        refine f_tn (f_again (i + 1, _, m90) (by first | omega | (dsimp only; omega) | (simp; omega)) ⟨by omega, by rw [hky, List.flatMap_append, List.length_append]; simpa using o90⟩ ?_ ?_ ?_)
        · exact (by repeat (first | exact trivial | refine ⟨rfl, ?_⟩))
        · exact (by repeat (first | exact trivial | refine ⟨rfl, ?_⟩))
        · repeat (first | exact Sub.nil | refine Sub.pick ?_ | refine Sub.castO rfl ?_ | refine Sub.skip ?_)
       ·
        have hni : prOf l[i] ∈ M := Classical.byContradiction fun h => absurd (hciff.2 h) (by simpa using c85)
        have hky := keepA_no hi hni
        refine f_skip ?_
        refine f_bn ?_
        refine f_tn (kh27 _ _ ?_)
        clear kh27
        refine f_region ?_
        refine f_stepP rfl rfl rfl (o_add rfl rfl _ (wrap_i64 (by omega))) ?_
        refine f_stepP rfl rfl rfl (o_move rfl) ?_
        refine f_done ?_
        refine f_tn (f_again (i + 1, _, ma) (by first | omega | (dsimp only; omega) | (simp; omega)) ⟨by omega, by rw [hky]; exact hO⟩ ?_ ?_ ?_)
        · exact (by repeat (first | exact trivial | refine ⟨rfl, ?_⟩))
        · exact (by repeat (first | exact trivial | refine ⟨rfl, ?_⟩))
        · repeat (first | exact Sub.nil | refine Sub.pick ?_ | refine Sub.castO rfl ?_ | refine Sub.skip ?_)
      ·
       obtain rfl : i = l.length := by omega
       rw [List.take_length] at hO ⊢
       refine f_exit ?_
       refine f_te ?_
       clear kh26
       refine f_te ?_
       refine f_be ?_
       refine f_tn (kh23 _ _ ?_)
       clear kh23
       refine f_seq fun K30 kh30 => ?_
       refine f_region ?_
       refine f_stepP rfl rfl rfl (o_loadA (vs := [_, _]) Try.isAgg24 Try.sizeOf24 rfl rfl ⟨(rdA rfl), (rdA rfl), trivial⟩) ?_
       refine f_step rfl rfl rfl (o_call Try.call26 rfl (fun w_ hp_ => PartsN_spec (n : Int) A11 (keepA M l) c11 w_ (seen_ro (hO.seen hp_)) (by have := keepA_len M l; omega) hN (keepA_ok M hok)) ?_)
       rintro _ _ ⟨P, AP, cP, mP, rfl, rfl, hoP, hP0, _⟩
       rw [keepA_good hg M]
       dsimp only [List.cons_append, List.nil_append]
       refine f_stepP rfl rfl rfl (o_extract rfl rfl) ?_
       refine f_stepP rfl rfl rfl (o_extract rfl rfl) ?_
       refine f_stepP rfl rfl rfl (o_assign rfl) ?_
       refine f_stepP rfl rfl rfl (o_assign rfl) ?_
       refine f_done ?_
       refine f_tn (kh30 _ _ ?_)
       clear kh30
       refine f_ret ?_
       exact f_fin2 [mP] Try.results15 rfl rfl (by repeat (first | exact Sub.nil | refine Sub.pick ?_ | refine Sub.castO rfl ?_ | refine Sub.skip ?_)) ⟨P, AP, cP, mP, by rw [hfz], rfl, hoP, fun _ => hP0 (keepA_good hg M), fun h => absurd hfz h⟩

end Go.Proofs.Ytbjiejhdgkpjcaa

/- natcut.right, natcut.Count, slices.Max, split.sizes, split.looked, split.Sizes. -/
namespace Go.Proofs.Ytbjiejhdgkpjcaa
open Go Go.RowKit Fly
set_option linter.unusedVariables false
set_option linter.unusedSimpArgs false

set_option maxRecDepth 100000 in
set_option maxHeartbeats 4000000 in
theorem right_spec (N : Int) (A B : Option Addr) (ln cap : Nat) (L : List Int) (cb : Nat) (w : World) (hL : Ro (Fr w []) w B (ints L)) (hm : L.length ≤ 9223372036854775807) :
    Meets Try.prog 48 [.agg #[.int .i64 N, .slice A ln cap], .slice B L.length cb] w [] (fun u m => u = .bool (rightB N L) ∧ m = []) := by
 refine f_enter Try.func48 rfl Try.ntmps48 rfl Owns.nil ?_
 refine f_seq fun K1 kh1 => ?_
 refine f_region ?_
 refine f_step rfl rfl rfl (o_box rfl rfl fun b2 => ?_)
 refine f_stepP rfl rfl rfl (o_assign rfl) ?_
 refine f_done ?_
 refine f_tn (kh1 _ _ ?_)
 clear kh1
 refine f_seq fun K2 kh2 => ?_
 refine f_region ?_
 refine f_stepP rfl rfl rfl (o_assign rfl) ?_
 refine f_done ?_
 refine f_tn (kh2 _ _ ?_)
 clear kh2
 refine f_seq fun K3 kh3 => ?_
 refine f_seq fun K4 kh4 => ?_
 refine f_region ?_
 refine f_stepP rfl rfl rfl (o_move rfl) ?_
 refine f_stepP rfl rfl rfl (o_len sl35 rfl) ?_
 refine f_stepP rfl rfl rfl (o_move rfl) ?_
 refine f_done ?_
 refine f_tn (kh4 _ _ ?_)
 clear kh4
 refine f_block ?_
 refine f_loopK (α := Nat × Int) [1, 2, 8, 9] (fun ⟨k, q⟩ => [(10, .int .i64 (k : Int)), (5, .int .i64 q)]) (fun ⟨k, q⟩ => k ≤ L.length ∧ 0 ≤ q ∧ q ≤ k ∧ rgo 0 L = rgo q (L.drop k)) (fun ⟨k, q⟩ => L.length - k) (0, 0) ?_ ?_ ?_
 · exact (by repeat (first | exact trivial | refine ⟨rfl, ?_⟩))
 · exact ⟨by omega, by omega, by omega, by rw [List.drop_zero]⟩
 ·
  rintro ⟨k, q⟩ ⟨hkl, hq0, hqk, hrg⟩
  refine f_seq fun K5 kh5 => ?_
  refine f_region ?_
  refine f_stepP rfl rfl rfl (o_lss rfl rfl) ?_
  refine f_done ?_
  refine f_tn (kh5 _ _ ?_)
  clear kh5
  refine f_seq fun K6 kh6 => ?_
  refine f_cond rfl (fun c11 => ?_) (fun c11 => ?_)
  ·
   have hk : k < L.length := by omega
   obtain ⟨bb, ob, rfl, hSb, hcb⟩ := hL (fun e => by have := ints_length L; rw [e] at this; simp at this; omega)
   have hrd := rgo_drop hk q
   refine f_skip ?_
   refine f_tn (kh6 _ _ ?_)
   clear kh6
   refine f_seq fun K7 kh7 => ?_
   refine f_block ?_
   refine f_seq fun K8 kh8 => ?_
   refine f_region ?_
   refine f_stepP rfl rfl rfl (o_idx sl35 rfl rfl (ob + k) ⟨by omega, by omega, by first | omega | (simp; done) | (simp; omega)⟩) ?_
   refine f_stepP rfl rfl rfl (o_load Try.isAgg3 rfl (roOne (enc := (.int .i64 ·)) hSb hcb hk)) ?_
   refine f_stepP rfl rfl rfl (o_assign rfl) ?_
   refine f_done ?_
   refine f_tn (kh8 _ _ ?_)
   clear kh8
   refine f_seq fun K9 kh9 => ?_
   refine f_seq fun K10 kh10 => ?_
   refine f_region ?_
   refine f_stepP rfl rfl rfl (o_move rfl) ?_
   refine f_stepP rfl rfl rfl (o_lss rfl rfl) ?_
   refine f_stepP rfl rfl rfl (o_move rfl) ?_
   refine f_splitL 16 rfl (fun g16 => ?_) (fun g16 => ?_)
   ·
    refine f_stepN rfl rfl rfl rfl rfl rfl ?_
    refine f_stepN rfl rfl rfl rfl rfl rfl ?_
    refine f_stepN rfl rfl rfl rfl rfl rfl ?_
    refine f_stepP rfl rfl rfl (o_pickT rfl rfl) ?_
    refine f_done ?_
    refine f_tn (kh10 _ _ ?_)
    clear kh10
    refine f_condT rfl ?_
    refine f_seq fun K11 kh11 => ?_
    refine f_region ?_
    refine f_stepP rfl rfl rfl (o_assign rfl) ?_
    refine f_done ?_
    refine f_tn (kh11 _ _ ?_)
    clear kh11
    refine f_ret ?_
    refine f_tr ?_
    refine f_br ?_
    refine f_tr ?_
    refine f_tr ?_
    refine f_br ?_
    refine f_tr ?_
    have e : rightB N L = false := by rw [rightB, hrg, hrd, if_pos (.inl g16)]; rfl
    exact f_fin1 [] Try.results48 rfl Sub.nil ⟨by rw [e], rfl⟩
   ·
    refine f_stepPY rfl rfl rfl rfl rfl (o_move rfl) ?_
    refine f_stepPY rfl rfl rfl rfl rfl (o_move rfl) ?_
    refine f_stepPY rfl rfl rfl rfl rfl (o_gtr rfl rfl) ?_
    refine f_stepP rfl rfl rfl (o_pickF rfl rfl) ?_
    refine f_done ?_
    refine f_tn (kh10 _ _ ?_)
    clear kh10
    refine f_cond rfl (fun c20 => ?_) (fun c20 => ?_)
    ·
     refine f_seq fun K12 kh12 => ?_
     refine f_region ?_
     refine f_stepP rfl rfl rfl (o_assign rfl) ?_
     refine f_done ?_
     refine f_tn (kh12 _ _ ?_)
     clear kh12
     refine f_ret ?_
     refine f_tr ?_
     refine f_br ?_
     refine f_tr ?_
     refine f_tr ?_
     refine f_br ?_
     refine f_tr ?_
     have e : rightB N L = false := by rw [rightB, hrg, hrd, if_pos (.inr (by omega))]; rfl
     exact f_fin1 [] Try.results48 rfl Sub.nil ⟨by rw [e], rfl⟩
    ·
     refine f_skip ?_
     refine f_tn (kh9 _ _ ?_)
     clear kh9
     refine f_seq fun K13 kh13 => ?_
     refine f_region ?_
     refine f_stepP rfl rfl rfl (o_move rfl) ?_
     refine f_stepP rfl rfl rfl (o_move rfl) ?_
     refine f_stepP rfl rfl rfl (o_eql rfl rfl) ?_
     refine f_done ?_
     refine f_tn (kh13 _ _ ?_)
     clear kh13
     refine f_cond rfl (fun c23 => ?_) (fun c23 => ?_)
     ·
      rw [if_neg (by omega), if_pos c23] at hrd
      refine f_region ?_
      refine f_stepP rfl rfl rfl (o_move rfl) ?_
      refine f_stepP rfl rfl rfl (o_add rfl rfl _ (wrap_i64 (by omega))) ?_
      refine f_stepP rfl rfl rfl (o_assign rfl) ?_
      refine f_done ?_
      refine f_bn ?_
      refine f_tn (kh7 _ _ ?_)
      clear kh7
      refine f_region ?_
      refine f_stepP rfl rfl rfl (o_add rfl rfl _ (wrap_i64 (by omega))) ?_
      refine f_stepP rfl rfl rfl (o_move rfl) ?_
      refine f_done ?_
      refine f_tn (f_again (k + 1, q + 1) (by first | omega | (dsimp only; omega) | (simp; omega)) ⟨by omega, by omega, by omega, hrg.trans hrd⟩ ?_ ?_ ?_)
      · exact (by repeat (first | exact trivial | refine ⟨rfl, ?_⟩))
      · exact (by repeat (first | exact trivial | refine ⟨rfl, ?_⟩))
      · repeat (first | exact Sub.nil | refine Sub.pick ?_ | refine Sub.castO rfl ?_ | refine Sub.skip ?_)
     ·
      rw [if_neg (by omega), if_neg c23] at hrd
      refine f_skip ?_
      refine f_bn ?_
      refine f_tn (kh7 _ _ ?_)
      clear kh7
      refine f_region ?_
      refine f_stepP rfl rfl rfl (o_add rfl rfl _ (wrap_i64 (by omega))) ?_
      refine f_stepP rfl rfl rfl (o_move rfl) ?_
      refine f_done ?_
      refine f_tn (f_again (k + 1, q) (by first | omega | (dsimp only; omega) | (simp; omega)) ⟨by omega, by omega, by omega, hrg.trans hrd⟩ ?_ ?_ ?_)
      · exact (by repeat (first | exact trivial | refine ⟨rfl, ?_⟩))
      · exact (by repeat (first | exact trivial | refine ⟨rfl, ?_⟩))
      · repeat (first | exact Sub.nil | refine Sub.pick ?_ | refine Sub.castO rfl ?_ | refine Sub.skip ?_)
  ·
   refine f_exit ?_
   refine f_te ?_
   clear kh6
   refine f_te ?_
   refine f_be ?_
   refine f_tn (kh3 _ _ ?_)
   clear kh3
   refine f_seq fun K14 kh14 => ?_
   refine f_region ?_
   refine f_stepP rfl rfl rfl (o_move rfl) ?_
   refine f_stepP rfl rfl rfl (o_len sl35 rfl) ?_
   refine f_stepP rfl rfl rfl (o_field fa24_0 rfl) ?_
   refine f_stepP rfl rfl rfl (o_load Try.isAgg3 rfl (rdA rfl)) ?_
   refine f_stepP rfl rfl rfl (o_eql rfl rfl) ?_
   refine f_stepP rfl rfl rfl (o_assign rfl) ?_
   refine f_done ?_
   refine f_tn (kh14 _ _ ?_)
   clear kh14
   refine f_ret ?_
   have e : rightB N L = decide ((L.length : Int) = N) := by rw [rightB, hrg, rgo_end (by omega)]; rfl
   exact f_fin1 [] Try.results48 rfl Sub.nil ⟨by rw [e], rfl⟩

set_option maxRecDepth 100000 in
set_option maxHeartbeats 4000000 in
theorem Count_spec (N : Int) (A B : Option Addr) (l : List Arc) (cap : Nat) (L : List Int) (cb : Nat) (w : World) (hr : Ro (Fr w []) w A (l.flatMap arcCs)) (hl : l.length ≤ 9223372036854775807) (hN : I64 N) (hok : ∀ x ∈ l, ArcOk x) (hL : Ro (Fr w []) w B (ints L)) (hm : L.length ≤ 9223372036854775807) :
    Meets Try.prog 25 [.agg #[.int .i64 N, .slice A l.length cap], .slice B L.length cb] w [] (fun u m => u = .tuple #[.int .i64 (lcount N l L).1, .int .i64 (lcount N l L).2] ∧ m = []) := by
 refine f_enter Try.func25 rfl Try.ntmps25 rfl Owns.nil ?_
 refine f_seq fun K1 kh1 => ?_
 refine f_region ?_
 refine f_step rfl rfl rfl (o_box rfl rfl fun b2 => ?_)
 refine f_stepP rfl rfl rfl (o_assign rfl) ?_
 refine f_stepP rfl rfl rfl (o_assign rfl) ?_
 refine f_done ?_
 refine f_tn (kh1 _ _ ?_)
 clear kh1
 refine f_seq fun K2 kh2 => ?_
 refine f_seq fun K3 kh3 => ?_
 refine f_region ?_
 refine f_stepP rfl rfl rfl (o_loadA (vs := [_, _]) Try.isAgg24 Try.sizeOf24 rfl rfl ⟨(rdA rfl), (rdA rfl), trivial⟩) ?_
 refine f_step rfl rfl rfl (o_call Try.call37 rfl (fun w_ hp_ => Check_spec N A l cap w_ (hr.up0 hp_) hl hN hok) ?_)
 rintro _ _ ⟨rfl, rfl⟩
 dsimp only [List.cons_append, List.nil_append]
 refine f_stepP rfl rfl rfl (o_move rfl) ?_
 refine f_stepP rfl rfl rfl (o_extract rfl rfl) ?_
 refine f_stepP rfl rfl rfl (o_extract rfl rfl) ?_
 refine f_stepP rfl rfl rfl (o_assign rfl) ?_
 refine f_stepP rfl rfl rfl (o_assign rfl) ?_
 refine f_done ?_
 refine f_tn (kh3 _ _ ?_)
 clear kh3
 refine f_seq fun K4 kh4 => ?_
 refine f_region ?_
 refine f_stepP rfl rfl rfl (o_move rfl) ?_
 refine f_stepP rfl rfl rfl (o_neq rfl rfl) ?_
 refine f_done ?_
 refine f_tn (kh4 _ _ ?_)
 clear kh4
 refine f_cond rfl (fun c17 => ?_) (fun c17 => ?_)
 ·
  refine f_seq fun K5 kh5 => ?_
  refine f_region ?_
  refine f_stepP rfl rfl rfl (o_move rfl) ?_
  refine f_stepP rfl rfl rfl (o_assign rfl) ?_
  refine f_stepP rfl rfl rfl (o_assign rfl) ?_
  refine f_done ?_
  refine f_tn (kh5 _ _ ?_)
  clear kh5
  refine f_ret ?_
  refine f_tr ?_
  have e : lcount N l L = (0, (gcheck N l).2) := if_pos c17
  exact f_fin2 [] Try.results25 rfl rfl Sub.nil ⟨by rw [e], rfl⟩
 ·
  have hg0 : (gcheck N l).2 = 0 := by simpa using c17
  obtain ⟨hn1, hn2, _, hgd⟩ := gcheck_zero hg0
  refine f_skip ?_
  refine f_tn (kh2 _ _ ?_)
  clear kh2
  refine f_seq fun K6 kh6 => ?_
  refine f_seq fun K7 kh7 => ?_
  refine f_region ?_
  refine f_stepP rfl rfl rfl (o_loadA (vs := [_, _]) Try.isAgg24 Try.sizeOf24 rfl rfl ⟨(rdA rfl), (rdA rfl), trivial⟩) ?_
  refine f_stepP rfl rfl rfl (o_move rfl) ?_
  refine f_step rfl rfl rfl (o_call Try.call48 rfl (fun w_ hp_ => right_spec N A B l.length cap L cb w_ (hL.up0 hp_) hm) ?_)
  rintro _ _ ⟨rfl, rfl⟩
  dsimp only [List.cons_append, List.nil_append]
  refine f_stepP rfl rfl rfl (o_not rfl) ?_
  refine f_done ?_
  refine f_tn (kh7 _ _ ?_)
  clear kh7
  refine f_condB rfl (fun c22 => ?_) (fun c22 => ?_)
  ·
   refine f_seq fun K8 kh8 => ?_
   refine f_region ?_
   refine f_stepP rfl rfl rfl (o_assign rfl) ?_
   refine f_stepP rfl rfl rfl (o_assign rfl) ?_
   refine f_done ?_
   refine f_tn (kh8 _ _ ?_)
   clear kh8
   refine f_ret ?_
   refine f_tr ?_
   have e : lcount N l L = (0, 80) := by rw [lcount, if_neg c17, if_pos (by simpa using c22)]
   exact f_fin2 [] Try.results25 rfl rfl Sub.nil ⟨by rw [e], rfl⟩
  ·
   have hrt : rightB N L = true := by simpa using c22
   obtain ⟨n, rfl⟩ : ∃ n : Nat, N = (n : Int) := ⟨N.toNat, by omega⟩
   have hg : (gcheck (n : Int) l).2 = 0 := hg0
   have hLn : L.length = n := by unfold rightB at hrt; simp at hrt; omega
   refine f_skip ?_
   refine f_tn (kh6 _ _ ?_)
   clear kh6
   refine f_seq fun K9 kh9 => ?_
   refine f_region ?_
   refine f_stepP rfl rfl rfl (o_assign rfl) ?_
   refine f_done ?_
   refine f_tn (kh9 _ _ ?_)
   clear kh9
   refine f_seq fun K10 kh10 => ?_
   refine f_seq fun K11 kh11 => ?_
   refine f_region ?_
   refine f_stepP rfl rfl rfl (o_loadA (vs := [_, _]) Try.isAgg24 Try.sizeOf24 rfl rfl ⟨(rdA rfl), (rdA rfl), trivial⟩) ?_
   refine f_step rfl rfl rfl (o_call Try.call29 rfl (fun w_ hp_ => pairs_spec n A l cap w_ (hr.up0 hp_) hg) ?_)
   rintro _ _ ⟨A', mp, rfl, rfl, cp, hop⟩
   have hpl := prs_len (n := n) (by omega) l
   dsimp only [List.cons_append, List.nil_append]
   refine f_stepP rfl rfl rfl (o_len sl28 rfl) ?_
   refine f_stepP rfl rfl rfl (o_move rfl) ?_
   refine f_done ?_
   refine f_tn (kh11 _ _ ?_)
   clear kh11
   refine f_block ?_
   refine f_loop (α := Nat) [1, 24, 25] (fun i => [(26, .int .i64 (i : Int)), (8, .int .i64 ((((prs n l).take i).filter (apart L)).length : Int))]) (fun i => [mp]) (fun i => i ≤ (prs n l).length) (fun i => (prs n l).length - i) (0) ?_ ?_ ?_ ?_
   · exact (by repeat (first | exact trivial | refine ⟨rfl, ?_⟩))
   · repeat (first | exact Sub.nil | refine Sub.pick ?_ | refine Sub.castO rfl ?_ | refine Sub.skip ?_)
   · exact Nat.zero_le _
   ·
    rintro i hil
    have hfl : (((prs n l).take i).filter (apart L)).length ≤ i := Nat.le_trans (List.length_filter_le _ _) (by rw [List.length_take]; omega)
    refine f_seq fun K12 kh12 => ?_
    refine f_region ?_
    refine f_stepP rfl rfl rfl (o_lss rfl rfl) ?_
    refine f_done ?_
    refine f_tn (kh12 _ _ ?_)
    clear kh12
    refine f_seq fun K13 kh13 => ?_
    refine f_cond rfl (fun c27 => ?_) (fun c27 => ?_)
    ·
     have hi : i < (prs n l).length := by omega
     obtain ⟨bp, spp, rfl, rfl⟩ := hop.at_ (by omega)
     have hrg := prs_rng (List.getElem_mem hi)
     obtain ⟨bb, ob, rfl, hSb, hcb⟩ := hL (fun e => by have := ints_length L; rw [e] at this; simp at this; omega)
     have hx1 : (prs n l)[i].1.toNat < L.length := by omega
     have hx2 : (prs n l)[i].2.toNat < L.length := by omega
     have hap : apart L (prs n l)[i] = decide (L[(prs n l)[i].1.toNat] ≠ L[(prs n l)[i].2.toNat]) := by unfold apart; rw [List.getD_eq_getElem?_getD, List.getD_eq_getElem?_getD, List.getElem?_eq_getElem hx1, List.getElem?_eq_getElem hx2]; rfl
     have hnx := filt_len_next (q := apart L) hi
     rw [hap] at hnx
     refine f_skip ?_
     refine f_tn (kh13 _ _ ?_)
     clear kh13
     refine f_seq fun K14 kh14 => ?_
     refine f_block ?_
     refine f_seq fun K15 kh15 => ?_
     refine f_region ?_
     refine f_stepP rfl rfl rfl (o_idx sl28 rfl rfl (i * 2) ⟨by omega, by omega, by first | omega | (simp; done) | (simp; omega)⟩) ?_
     refine f_stepP rfl rfl rfl (o_loadA (vs := prCs (prs n l)[i]) Try.isAgg47 Try.sizeOf47 rfl rfl (rdsOwn prCs_len hi)) ?_
     refine f_step rfl rfl rfl (o_alloc Try.zeroValue47 rfl fun b10 => ?_)
     refine f_step0 rfl rfl (o_storeA Try.sizeOf47 rfl rfl rfl rfl (by first | exact Nat.le_of_ble_eq_true rfl | (simp; done) | (simp; omega)) (prCs (prs n l)[i]) rfl ?_)
     refine f_done ?_
     refine f_tn (kh15 _ _ ?_)
     clear kh15
     refine f_seq fun K16 kh16 => ?_
     refine f_regionS rfl (by decide +kernel) ?_
     refine f_stillP rfl rfl rfl (o_move rfl) ?_
     refine f_stillP rfl rfl rfl (o_field fa47_0 rfl) ?_
     refine f_stillP rfl rfl rfl (o_load Try.isAgg3 rfl (rdA rfl)) ?_
     refine f_stillP rfl rfl rfl (o_idx sl35 rfl rfl (ob + (prs n l)[i].1.toNat) ⟨by omega, by omega, by first | omega | (simp; done) | (simp; omega)⟩) ?_
     refine f_stillP rfl rfl rfl (o_load Try.isAgg3 rfl (roOne (enc := (.int .i64 ·)) hSb hcb hx1)) ?_
     refine f_stillP rfl rfl rfl (o_move rfl) ?_
     refine f_stillP rfl rfl rfl (o_field fa47_1 rfl) ?_
     refine f_stillP rfl rfl rfl (o_load Try.isAgg3 rfl (rdA rfl)) ?_
     refine f_stillP rfl rfl rfl (o_idx sl35 rfl rfl (ob + (prs n l)[i].2.toNat) ⟨by omega, by omega, by first | omega | (simp; done) | (simp; omega)⟩) ?_
     refine f_stillP rfl rfl rfl (o_load Try.isAgg3 rfl (roOne (enc := (.int .i64 ·)) hSb hcb hx2)) ?_
     refine f_stillP rfl rfl rfl (o_neq rfl rfl) ?_
     refine f_stillD ?_
     refine f_tn (kh16 _ _ ?_)
     clear kh16
     refine f_cond rfl (fun c40 => ?_) (fun c40 => ?_)
     ·
      rw [if_pos (by simpa using c40)] at hnx
      refine f_region ?_
      refine f_stepP rfl rfl rfl (o_move rfl) ?_
      refine f_stepP rfl rfl rfl (o_add rfl rfl _ (Eq.trans (wrap_i64 (by omega)) (show _ = ((((prs n l).take (i + 1)).filter (apart L)).length : Int) by omega))) ?_
      refine f_stepP rfl rfl rfl (o_assign rfl) ?_
      refine f_done ?_
      refine f_bn ?_
      refine f_tn (kh14 _ _ ?_)
      clear kh14
      refine f_region ?_
      refine f_stepP rfl rfl rfl (o_add rfl rfl _ (wrap_i64 (by omega))) ?_
      refine f_stepP rfl rfl rfl (o_move rfl) ?_
      refine f_done ?_
      refine f_tn (f_again (i + 1) (by first | omega | (dsimp only; omega) | (simp; omega)) (by omega) ?_ ?_ ?_)
      · exact (by repeat (first | exact trivial | refine ⟨rfl, ?_⟩))
      · exact (by repeat (first | exact trivial | refine ⟨rfl, ?_⟩))
      · repeat (first | exact Sub.nil | refine Sub.pick ?_ | refine Sub.castO rfl ?_ | refine Sub.skip ?_)
     ·
      rw [if_neg (by simpa using c40), Nat.add_zero] at hnx
      refine f_reC 8 rfl (v := .int .i64 ((((prs n l).take (i + 1)).filter (apart L)).length : Int)) (by rw [hnx]; rfl) ?_
      refine f_skip ?_
      refine f_bn ?_
      refine f_tn (kh14 _ _ ?_)
      clear kh14
      refine f_region ?_
      refine f_stepP rfl rfl rfl (o_add rfl rfl _ (wrap_i64 (by omega))) ?_
      refine f_stepP rfl rfl rfl (o_move rfl) ?_
      refine f_done ?_
      refine f_tn (f_again (i + 1) (by first | omega | (dsimp only; omega) | (simp; omega)) (by omega) ?_ ?_ ?_)
      · exact (by repeat (first | exact trivial | refine ⟨rfl, ?_⟩))
      · exact (by repeat (first | exact trivial | refine ⟨rfl, ?_⟩))
      · repeat (first | exact Sub.nil | refine Sub.pick ?_ | refine Sub.castO rfl ?_ | refine Sub.skip ?_)
    ·
     refine f_exit ?_
     refine f_te ?_
     clear kh13
     refine f_te ?_
     refine f_be ?_
     refine f_tn (kh10 _ _ ?_)
     clear kh10
     refine f_seq fun K17 kh17 => ?_
     refine f_region ?_
     refine f_stepP rfl rfl rfl (o_move rfl) ?_
     refine f_stepP rfl rfl rfl (o_assign rfl) ?_
     refine f_stepP rfl rfl rfl (o_assign rfl) ?_
     refine f_done ?_
     refine f_tn (kh17 _ _ ?_)
     clear kh17
     refine f_ret ?_
     have e : lcount (n : Int) l L = ((cutN n l L : Int), 0) := by rw [lcount, if_neg (by rw [hg]; simp), if_neg (by rw [hrt]; simp)]; rfl
     obtain rfl : i = (prs n l).length := by omega
     rw [e]
     exact f_fin2 [] Try.results25 rfl rfl Sub.nil ⟨by rw [cutN, List.take_length], rfl⟩

end Go.Proofs.Ytbjiejhdgkpjcaa

/- The first example of chapter 8: what the natural cut is asked of. -/

namespace Go.Proofs.Ytbjiejhdgkpjcaa
open Go Fly
set_option linter.unusedVariables false
set_option linter.unusedSimpArgs false
set_option linter.unusedSectionVars false

/-- The neighbours of a vertex, counted out. -/
def nbC (n : Nat) (l : List Arc) (v : Int) : List Int := ((List.range n).map Int.ofNat).filter fun u => l.any fun x => decide (u ∈ nbr v x)
theorem nbrs_canonC {n : Nat} {l : List Arc} (hg : (gcheck (n : Int) l).2 = 0) (v : Nat) (hv : v < n) : nbrs (v : Int) l = nbC n l v := by
  have h2 : (nbC n l v).Pairwise (· < ·) := by
    unfold nbC
    refine List.Pairwise.filter _ ?_
    rw [List.pairwise_map]
    exact List.pairwise_lt_range.imp fun {a b} h => by show (a : Int) < (b : Int); omega
  have h1 := nbrs_rising v l
  refine List.Perm.eq_of_pairwise (le := (· < ·)) (fun a b _ _ h h' => absurd h (by omega)) h1 h2 ?_
  refine (List.perm_ext_iff_of_nodup (h1.imp fun {a b} h e => by omega) (h2.imp fun {a b} h e => by omega)).2 fun u => ?_
  rw [nbrs_mem]
  unfold nbC
  simp only [List.mem_filter, List.mem_map, List.mem_range, List.any_eq_true, decide_eq_true_eq]
  constructor
  · rintro ⟨x, hx, hu⟩
    have := (nbrs_rngG hg).2 v hv u (nbrs_mem.2 ⟨x, hx, hu⟩)
    exact ⟨⟨u.toNat, by omega, by show ((u.toNat : Nat) : Int) = u; omega⟩, x, hx, hu⟩
  · rintro ⟨_, x, hx, hu⟩; exact ⟨x, hx, hu⟩
theorem bstep_sameC {rows rows' : Nat → List Int} {n : Nat} (h : ∀ v, v < n → rows v = rows' v) {s : BSt} (hI : BInv n s) (k : Nat) : bstep rows k s = bstep rows' k s := by
  unfold bstep
  cases e : s.1[k]? with
  | none => rfl
  | some v =>
    have hv := hI.rng v (List.mem_of_getElem? e)
    simp only
    rw [h _ (by omega)]
theorem bgo_sameC {rows rows' : Nat → List Int} {n : Nat} (h : ∀ v, v < n → rows v = rows' v) (hr : ∀ v, v < n → ∀ u ∈ rows v, 0 ≤ u ∧ u < (n : Int)) {s : BSt} (hI : BInv n s) : ∀ k, bgo rows s k = bgo rows' s k
  | 0 => rfl
  | k + 1 => by
    show bstep rows k (bgo rows s k) = bstep rows' k (bgo rows' s k)
    rw [← bgo_sameC h hr hI k]
    exact bstep_sameC h (BInv.go hr hI k) k
def wg8 : List Arc := [⟨0, 1, 0⟩, ⟨1, 2, 0⟩, ⟨2, 0, 0⟩, ⟨3, 4, 0⟩, ⟨4, 5, 0⟩, ⟨5, 3, 0⟩, ⟨2, 3, 0⟩]
theorem wg8Ok : ∀ x ∈ wg8, ArcOk x := by
  intro x hx
  simp only [wg8, List.mem_cons, List.not_mem_nil, or_false] at hx
  rcases hx with rfl | rfl | rfl | rfl | rfl | rfl | rfl <;> exact ⟨⟨by decide, by decide⟩, ⟨by decide, by decide⟩, by decide⟩
theorem w8Reg : regR 6 wg8 0 4 = ([0, 1, 2, 3], 0) := by
  unfold regR
  rw [if_neg (by decide), if_neg (by decide), if_neg (by decide)]
  have h : bfs 6 (fun v : Nat => nbrs (v : Int) wg8) 0 (List.replicate 6 false) = bfs 6 (fun v : Nat => nbC 6 wg8 (v : Int)) 0 (List.replicate 6 false) :=
    bgo_sameC (n := 6) (fun v hv => nbrs_canonC (n := 6) (l := wg8) (by decide) v hv) (nbrs_rngG (n := 6) (l := wg8) (by decide)).2 (BInv.start (by simp) (by decide)) 6
  show ((bfs 6 (fun v : Nat => nbrs (v : Int) wg8) 0 (List.replicate 6 false)).1.take 4, (0 : Int)) = _
  rw [h]; decide +kernel
theorem w8Node : nodeL 6 wg8 0 4 = [0, 2, 3, 4, 1, 1] := by
  unfold nodeL coreR
  rw [show regR ((6 : Nat) : Int) wg8 0 4 = ([0, 1, 2, 3], 0) from w8Reg]
  decide +kernel
theorem w8N : nodeN 6 wg8 0 4 = 5 := by
  unfold nodeN coreR
  rw [show regR ((6 : Nat) : Int) wg8 0 4 = ([0, 1, 2, 3], 0) from w8Reg]
  decide +kernel
/-- The network's edges. -/
def we8 : List Arc := [⟨0, 2, 1⟩, ⟨2, 0, 1⟩, ⟨0, 3, 1⟩, ⟨3, 0, 1⟩, ⟨2, 3, 1⟩, ⟨3, 2, 1⟩, ⟨3, 4, 1⟩, ⟨4, 3, 1⟩, ⟨4, 1, 1⟩, ⟨1, 4, 1⟩, ⟨4, 1, 1⟩, ⟨1, 4, 1⟩]
theorem w8E : cutE (prs 6 wg8) (nodeL 6 wg8 0 4) = we8 := by rw [w8Node]; decide +kernel
theorem w8Flow : Flow 5 we8 0 1 [0, 0, 1, 0, 0, 0, 1, 0, 1, 0, 0, 0] 1 := ⟨⟨rfl, by decide⟩, by decide⟩
theorem w8Side : Side 5 we8 0 1 [0, 0, 1, 0, 0, 0, 1, 0, 1, 0, 0, 0] (fun v => [true, false, true, true, false].getD v false) where
  src := rfl
  dst := rfl
  shut := by unfold Shut; decide
  reach := fun v hv h => by
    have : v = 0 ∨ v = 2 ∨ v = 3 := by
      have h5 : v = 0 ∨ v = 1 ∨ v = 2 ∨ v = 3 ∨ v = 4 := by omega
      rcases h5 with rfl | rfl | rfl | rfl | rfl
      · exact .inl rfl
      · cases h
      · exact .inr (.inl rfl)
      · exact .inr (.inr rfl)
      · cases h
    have h2 : Reach we8 [0, 0, 1, 0, 0, 0, 1, 0, 1, 0, 0, 0] 0 2 := Reach.step (e := we8) (k := 0) .refl (by decide) (by decide)
    rcases this with rfl | rfl | rfl
    · exact .refl
    · exact h2
    · exact Reach.step (e := we8) (k := 8) h2 (by decide) (by decide)
theorem w8Cut {C : List Pr} (h : NcΦ 6 wg8 0 4 C) : C = [(2, 3)] := by
  refine nc_unique (n := 6) (nc_zero (n := 6) (by rw [show regR ((6 : Nat) : Int) wg8 0 4 = ([0, 1, 2, 3], 0) from w8Reg])) h ⟨fun e => ?_, fun _ => ?_⟩
  · rw [show regR ((6 : Nat) : Int) wg8 0 4 = ([0, 1, 2, 3], 0) from w8Reg] at e; cases e
  · refine ⟨[0, 0, 1, 0, 0, 0, 1, 0, 1, 0, 0, 0], 1, [true, false, true, true, false], by rw [w8N]; rfl, ?_, ?_, ?_⟩
    · rw [w8E, w8N]; exact w8Flow
    · rw [w8E, w8N]; exact w8Side
    · rw [w8Node]; decide +kernel
theorem w8Nc : ncE 6 wg8 0 4 = 0 := nc_zero (n := 6) (by rw [show regR ((6 : Nat) : Int) wg8 0 4 = ([0, 1, 2, 3], 0) from w8Reg])
theorem w8Es : ends2 (keepA [(2, 3)] wg8) = [(0, 1), (1, 2), (2, 0), (3, 4), (4, 5), (5, 3)] := by decide +kernel
theorem w8Root : ∀ u : Nat, u < 6 → Conn [(0, 1), (1, 2), (2, 0), (3, 4), (4, 5), (5, 3)] u (if u < 3 then 0 else 3) := fun u hu => by
  have h5 : u = 0 ∨ u = 1 ∨ u = 2 ∨ u = 3 ∨ u = 4 ∨ u = 5 := by omega
  rcases h5 with rfl | rfl | rfl | rfl | rfl | rfl
  · exact .refl _
  · exact Conn.edge (.inr (by decide))
  · exact Conn.edge (.inl (by decide))
  · exact .refl _
  · exact Conn.edge (.inr (by decide))
  · exact Conn.edge (.inl (by decide))
theorem w8At : ∀ u : Nat, ∀ h : u < 6, ([0, 0, 0, 1, 1, 1] : List Nat)[u] = if u < 3 then 0 else 1 := by decide
theorem w8Parts : IsParts 6 (ends2 (keepA [(2, 3)] wg8)) [0, 0, 0, 1, 1, 1] where
  len := rfl
  tidy := by unfold Tidy; decide
  conn := fun u v hu hv => by
    have hu' : u < 6 := hu
    have hv' : v < 6 := hv
    rw [w8Es, w8At u hu', w8At v hv']
    constructor
    · intro e
      have h1 := w8Root u hu'
      have h2 := w8Root v hv'
      have e2 : (if u < 3 then 0 else 3) = (if v < 3 then 0 else 3) := by
        by_cases a : u < 3 <;> by_cases b : v < 3 <;> simp [a, b] at e ⊢
      rw [e2] at h1
      exact h1.trans h2.symm
    · intro h
      exact conn_eq_of_up (f := fun x => if x < 3 then 0 else 1) (by decide) h
theorem w8Frag {p : List Nat} (h : IsParts 6 (ends2 (keepA [(2, 3)] wg8)) p) : natN p = [0, 0, 0, 1, 1, 1] := by
  rw [h.unique w8Parts fun _ _ _ _ => Iff.rfl]; rfl
theorem w8FE : fragE 6 wg8 [(2, 3)] = 0 := by decide +kernel
theorem w8Count : lcount 6 wg8 [0, 0, 0, 1, 1, 1] = (1, 0) := by decide +kernel
end Go.Proofs.Ytbjiejhdgkpjcaa
