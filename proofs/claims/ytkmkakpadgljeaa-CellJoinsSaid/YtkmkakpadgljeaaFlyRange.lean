/- Ranging over a map that the loop does not write, in the words of the small logic. -/
import Derived.Test.YtkmkakpadgljeaaFlyMap
import Derived.Laws.IdiomRangeMap

namespace Go.Proofs.Ytkmkakpadgljeaa.Fly
open Go Go.RowKit
set_option linter.unusedVariables false
set_option linter.unusedSimpArgs false
set_option linter.unusedSectionVars false

theorem nodup_inj {β γ : Type} {f : β → γ} : ∀ {l : List β} {a b : β}, (l.map f).Nodup → a ∈ l → b ∈ l → f a = f b → a = b
  | [], _, _, _, ha, _, _ => by cases ha
  | x :: l, a, b, h, ha, hb, e => by
    simp only [List.map_cons, List.nodup_cons, List.mem_map, not_exists, not_and] at h
    simp only [List.mem_cons] at ha hb
    rcases ha with rfl | ha <;> rcases hb with rfl | hb
    · rfl
    · exact absurd e.symm (h.1 b hb)
    · exact absurd e (h.1 a ha)
    · exact nodup_inj h.2 ha hb e

section
variable {α : Type} [DecidableEq α]
/-- The keys that have come. -/
structure Came (l : List (α × Value × Nat)) (seen : List Nat) (out : List α) : Prop where
  nodup : out.Nodup
  mem : ∀ e ∈ l, e.1 ∈ out ↔ e.2.2 ∈ seen
  sub : ∀ k ∈ out, k ∈ l.map (·.1)
theorem Came.start {l : List (α × Value × Nat)} : Came l [] [] := ⟨by simp, by simp, by simp⟩
theorem Came.len {l : List (α × Value × Nat)} {seen : List Nat} {out : List α} (h : Came l seen out) : out.length ≤ l.length := by
  have := List.Nodup.length_le_of_subset h.nodup h.sub
  simpa using this
theorem Came.next {l : List (α × Value × Nat)} {c : Nat} {seen : List Nat} {out : List α} (h : Came l seen out) (hok : MOk l c) {e : α × Value × Nat} (he : e ∈ l) (hne : e.2.2 ∉ seen) : Came l (seen ++ [e.2.2]) (out ++ [e.1]) where
  nodup := by
    rw [List.nodup_append]
    refine ⟨h.nodup, by simp, fun a ha b hb e' => ?_⟩
    simp only [List.mem_singleton] at hb
    subst hb; subst e'
    exact hne ((h.mem e he).1 ha)
  mem := fun x hx => by
    simp only [List.mem_append, List.mem_singleton]
    rw [h.mem x hx]
    constructor
    · rintro (h1 | h1)
      · exact .inl h1
      · exact .inr (by rw [nodup_inj hok.keys hx he h1])
    · rintro (h1 | h1)
      · exact .inl h1
      · exact .inr (by rw [nodup_inj (f := fun x => x.2.2) hok.born hx he h1])
  sub := fun k hk => by
    simp only [List.mem_append, List.mem_singleton] at hk
    rcases hk with hk | rfl
    · exact h.sub k hk
    · exact List.mem_map.2 ⟨e, he, rfl⟩
theorem Came.all {l : List (α × Value × Nat)} {seen : List Nat} {out : List α} (h : Came l seen out) (ha : ∀ e ∈ l, e.2.2 ∈ seen) (k : α) : k ∈ out ↔ k ∈ l.map (·.1) :=
  ⟨h.sub k, fun hk => by obtain ⟨e, he, rfl⟩ := List.mem_map.1 hk; exact (h.mem e he).2 (ha e he)⟩
/-- An iterator over a map's block: the stamps of what it has handed out. -/
abbrev itObj (bm c : Nat) (seen : List Nat) : Obj := .mapIter (some bm) c seen.toArray c

variable {P : Program} {n : Nat} {S : Nat → Prop} {w0 : World} {env : Env} {segs : List Seg} {K : Value → List Seg → Prop} {d : Option Tmp} {ty : TypeId} {pos : String} {af : Array Edge} {g : Option (Nat × Bool)} {M k E : TypeId} {enc : α → Value}

theorem o_range {x : Operand} {bm : Nat} {l : List (α × Value × Nat)} {c : Nat} {f : Seg → List Seg} (KT : KeyT P M k E enc) (hx : ev env x = some (.map (some bm))) [hA : At segs bm (mobj enc l c) f]
    (kk : ∀ b, K (.pointer (some ⟨b, 0, none⟩)) ([(b, itObj bm c [])] :: segs)) : Does P n S w0 env segs ⟨d, .range M x, ty, pos, af, g⟩ K :=
  does_of fun a w ha hp => by
    have hb := hp.own bm _ hA.mem
    refine ⟨_, _, w.alloc (itObj bm c []), .inl ?_, by simpa using hp.alloc (itObj bm c []), kk w.heap.size⟩
    simp only [execOp, ha.eval hx, Sem.run_bind, run_range_map w M k E bm _ c KT.und hb, Result.andThen_ok, Sem.run_pure]

theorem left_list (l : List (α × Value × Nat)) (seen : List Nat) : (leftOf (l.map fun x => (⟨enc x.1, x.2.1, x.2.2⟩ : MapEntry)).toArray seen.toArray).toList = (l.filter fun x => !seen.contains x.2.2).map fun x => (⟨enc x.1, x.2.1, x.2.2⟩ : MapEntry) := by
  unfold leftOf
  simp [List.filter_map, Function.comp_def]

theorem run_next_at {w : World} {r bm c : Nat} {seen : List Nat} {l : List (α × Value × Nat)} (ty : TypeId) (hr : w.heap[r]? = some (itObj bm c seen)) (hb : w.heap[bm]? = some (mobj enc l c)) (hok : MOk l c) :
    ((∀ e ∈ l, e.2.2 ∈ seen) ∧ (Instr.next (.pointer (some ⟨r, 0, none⟩)) false ty).run P w = .ok (.tuple #[.bool false]) w) ∨
    ∃ e ∈ l, e.2.2 ∉ seen ∧ ∃ w1 : World, w1.heap = w.heap ∧ w1.os = w.os ∧ w1.tape = w.tape ∧ w1.output = w.output ∧ w.drawn ≤ w1.drawn ∧ (Instr.next (.pointer (some ⟨r, 0, none⟩)) false ty).run P w = .ok (.tuple #[.bool true, enc e.1, e.2.1]) { w1 with heap := w1.heap.setIfInBounds r (itObj bm c (seen ++ [e.2.2])) } := by
  have hold : ∀ x ∈ ((l.map fun x => (⟨enc x.1, x.2.1, x.2.2⟩ : MapEntry)).toArray).toList, x.born < c := fun x hx => by
    simp at hx
    obtain ⟨a, b, s, h, rfl⟩ := hx
    exact hok.old _ h
  simp only [Instr.next, getObj, Sem.run_bind, Sem.run, hr, hb, Result.andThen, next_test_false seen.toArray _ c c hold (Nat.le_refl _), Bool.false_eq_true, if_false]
  have hL := left_list (enc := enc) l seen
  unfold leftOf at hL
  have hmem : ∀ x ∈ (Array.filter (fun e => !seen.toArray.contains e.born) (l.map fun x => (⟨enc x.1, x.2.1, x.2.2⟩ : MapEntry)).toArray).toList, x.born < c := fun x hx => hold x (by simp at hx ⊢; exact hx.1)
  generalize Array.filter (fun e => !seen.toArray.contains e.born) (l.map fun x => (⟨enc x.1, x.2.1, x.2.2⟩ : MapEntry)).toArray = L at hL hmem ⊢
  have e1 : L.filter (fun x => decide (x.born < c)) = L := Array.filter_eq_self.2 (fun x hx => by simpa using hmem x (by simpa using hx))
  have e2 : L.filter (fun x => decide (x.born ≥ c)) = #[] := by
    rw [Array.filter_eq_empty_iff]
    intro x hx
    have := hmem x (by simpa using hx)
    simp; omega
  simp only [e1, e2, Array.append_empty]
  by_cases h0 : L.size = 0
  · left
    have : L = #[] := Array.eq_empty_of_size_eq_zero h0
    subst this
    refine ⟨fun e he => ?_, by simp [choose, Sem.run, Question.forced]⟩
    have hL' := hL.symm
    simp only [List.map_eq_nil_iff] at hL'
    rw [List.filter_eq_nil_iff] at hL'
    have := hL' e he
    simpa using this
  · right
    have hne : L.isEmpty = false := by simp [Array.isEmpty, h0]
    simp only [hne, Bool.false_eq_true, if_false, Array.empty_append, Array.size_map]
    have hch : ∃ (j : Nat) (w1 : World), j < L.size ∧ w1.heap = w.heap ∧ w1.os = w.os ∧ w1.tape = w.tape ∧ w1.output = w.output ∧ w.drawn ≤ w1.drawn ∧ (choose (Question.mapNext L.size)).run P w = .ok j w1 := by
      by_cases hf : L.size ≤ 1
      · exact ⟨0, w, by omega, rfl, rfl, rfl, rfl, Nat.le_refl _, by simp [choose, Sem.run, Question.forced, hf]⟩
      · exact ⟨_, w.drew, Nat.mod_lt _ (by omega), rfl, rfl, rfl, rfl, Nat.le_succ _, by
          simp only [choose, Sem.run, Question.forced, decide_eq_true_eq, hf, if_false, Question.cut]
          rfl⟩
    obtain ⟨j, w1, hj, q1, q2, q3, q4, q5, hrun⟩ := hch
    have hLj : L[j] ∈ L.toList := by simp
    rw [hL] at hLj
    obtain ⟨e, he, hee⟩ := List.mem_map.1 hLj
    obtain ⟨he1, he2⟩ := List.mem_filter.1 he
    refine ⟨e, he1, by simpa using he2, w1, q1, q2, q3, q4, q5, ?_⟩
    have hset : (setObj r (itObj bm c (seen ++ [e.2.2]))).run P w1 = .ok () { w1 with heap := w1.heap.setIfInBounds r (itObj bm c (seen ++ [e.2.2])) } := by
      simp only [setObj, Sem.run]
      rw [q1, hr]
    have hps : seen.toArray.push L[j].born = (seen ++ [e.2.2]).toArray := by rw [← hee]; simp
    simp only [hrun, Array.getElem?_map, Array.getElem?_eq_getElem hj, Option.map_some, Sem.run_bind, hps, hset, Result.andThen]
    rw [← hee]
    rfl

theorem o_next {x : Operand} {r bm c : Nat} {seen : List Nat} {l : List (α × Value × Nat)} {f f' : Seg → List Seg} (hok : MOk l c) (hx : ev env x = some (.pointer (some ⟨r, 0, none⟩))) [hA : At segs r (itObj bm c seen) f] [hB : At segs bm (mobj enc l c) f']
    (kend : (∀ e ∈ l, e.2.2 ∈ seen) → K (.tuple #[.bool false]) segs) (kmore : ∀ e ∈ l, e.2.2 ∉ seen → K (.tuple #[.bool true, enc e.1, e.2.1]) (f [(r, itObj bm c (seen ++ [e.2.2]))])) :
    Does P n S w0 env segs ⟨d, .next x false, ty, pos, af, g⟩ K :=
  does_of fun a w ha hp => by
    have hr := hp.own r _ hA.mem
    have hb := hp.own bm _ hB.mem
    obtain ⟨L, R, e1, e2⟩ := hA.flat
    rcases run_next_at (P := P) (enc := enc) ty hr hb hok with ⟨h1, h2⟩ | ⟨e, he, hne, w1, q1, q2, q3, q4, q5, h2⟩
    · exact ⟨_, _, w, .inl (by simp [execOp, ha.eval hx, h2]), hp, kend h1⟩
    · refine ⟨_, _, { w1 with heap := w1.heap.setIfInBounds r (itObj bm c (seen ++ [e.2.2])) }, .inl (by simp [execOp, ha.eval hx, h2]), ?_, kmore e he hne⟩
      rw [e2]
      rw [e1] at hp
      have hlt : r < w.heap.size := by
        rcases Nat.lt_or_ge r w.heap.size with h' | h'
        · exact h'
        · rw [Array.getElem?_eq_none h'] at hr; cases hr
      refine hp.put (by exact q2) (by exact q3) (by exact q4) (by simp [q1]) (by exact q5) (by simp [q1, hlt]) (fun k hk => ?_)
      have : r ≠ k := fun e => hk e.symm
      simp [q1, Array.getElem?_setIfInBounds, this]

/-- What a step of the iterator says. -/
def Nx (l : List (α × Value × Nat)) (seen : List Nat) (b : Bool) (seen' : List Nat) : Prop := (b = true ∧ ∃ e ∈ l, e.2.2 ∉ seen ∧ seen' = seen ++ [e.2.2]) ∨ (b = false ∧ seen' = seen ∧ ∀ e ∈ l, e.2.2 ∈ seen)

theorem o_next1 {x : Operand} {r bm c : Nat} {seen : List Nat} {l : List (α × Value × Nat)} {f f' : Seg → List Seg} (hok : MOk l c) (hx : ev env x = some (.pointer (some ⟨r, 0, none⟩))) [hA : At segs r (itObj bm c seen) f] [hB : At segs bm (mobj enc l c) f']
    (kk : ∀ (b : Bool) (rest : List Value) (seen' : List Nat), Nx l seen b seen' → K (.tuple (.bool b :: rest).toArray) (f [(r, itObj bm c seen')])) :
    Does P n S w0 env segs ⟨d, .next x false, ty, pos, af, g⟩ K :=
  o_next hok hx (fun h => by
    have e : f [(r, itObj bm c seen)] = segs := by
      obtain ⟨L, R, e1, e2⟩ := hA.eq
      rw [e1, e2]
    have := kk false [] seen (.inr ⟨rfl, rfl, h⟩)
    rwa [e] at this) fun e he hne => kk true [enc e.1, e.2.1] _ (.inl ⟨rfl, e, he, hne, rfl⟩)

theorem o_entry {x : Operand} {r bm c : Nat} {seen : List Nat} {l : List (α × Value × Nat)} {e : α × Value × Nat} {f f' : Seg → List Seg} (hok : MOk l c) (he : e ∈ l) (hx : ev env x = some (.pointer (some ⟨r, 0, none⟩))) [hA : At segs r (itObj bm c (seen ++ [e.2.2])) f] [hB : At segs bm (mobj enc l c) f'] :
    Pure P n S w0 env segs ⟨d, .entry x, ty, pos, af, g⟩ (.tuple #[enc e.1, e.2.1]) :=
  fun a w ha hp => by
    have hr := hp.own r _ hA.mem
    have hb := hp.own bm _ hB.mem
    have hf : ((l.map fun x => (⟨enc x.1, x.2.1, x.2.2⟩ : MapEntry)).toArray).find? (·.born == e.2.2) = some ⟨enc e.1, e.2.1, e.2.2⟩ := by
      rw [← Array.find?_toList]
      exact find_born ⟨enc e.1, e.2.1, e.2.2⟩ _ (by simp only [List.map_map]; exact hok.born) (List.mem_map.2 ⟨e, he, rfl⟩)
    have hbk : (seen ++ [e.2.2]).toArray.back? = some e.2.2 := by simp
    have : (Instr.entry (.pointer (some ⟨r, 0, none⟩))).run P w = .ok (.tuple #[enc e.1, e.2.1]) w := by
      simp only [Instr.entry, getObj, Sem.run_bind, Sem.run, hr, hb, Result.andThen, hbk, bne_self_eq_false, Bool.false_eq_true, if_false, hf]
      rfl
    simp [execOp, ha.eval hx, this]

theorem o_makeC {T E sz bytes : Nat} {z : List Value} {x y : Operand} {kx ky : IntKind} {N : Int} (hT : ElT P T E sz bytes z) (hx : ev env x = some (.int kx 0)) (hy : ev env y = some (.int ky N)) (m : Nat) (hm : N = (m : Int)) (hb : bytes * m ≤ 281474976710656)
    (hN : m ≤ 9223372036854775807) (kk : ∀ b, K (.slice (some ⟨b, 0, none⟩) 0 m) ([(b, blk (List.replicate m z).flatten E)] :: segs)) : Does P n S w0 env segs ⟨d, .makeSlice T x y, ty, pos, af, g⟩ K :=
  does_of fun a w ha hp => by
    obtain ⟨i, v, hi, hz, hc, rfl, rfl⟩ := hT.i
    subst hm
    have hr := run_make (P := P) w T E i v hT.und hi hz kx ky 0 m (by omega) (by omega) (by rw [← Int.natCast_mul]; omega) (by omega)
    rw [Int.toNat_natCast, hc, ← hT.len, madeCells_flat z m (by rw [hT.len]; exact hT.pos)] at hr
    refine ⟨.slice (some ⟨w.heap.size, 0, none⟩) 0 m, [(w.heap.size, blk (List.replicate m z).flatten E)] :: segs, w.alloc (blk (List.replicate m z).flatten E), .inl ?_, hp.alloc _, kk w.heap.size⟩
    simp only [execOp, ha.eval hx, ha.eval hy, hr, Sem.run_bind, Result.andThen_ok, Sem.run_pure]
    rfl

/-- An array's slice. -/
theorem o_sliceA {T E n' sz b : Nat} {x : Operand} (hT : P.underlying T = some (.array n' E)) (hs : ∀ w, (Go.sizeOf E).run P w = .ok sz w) (hx : ev env x = some (.pointer (some ⟨b, 0, none⟩))) : Pure P n S w0 env segs ⟨d, .slice T x none none none, ty, pos, af, g⟩ (.slice (some ⟨b, 0, none⟩) n' n') :=
  fun a w ha _ => by
    simp [execOp, Instr.sliceAt, run_underlying hT, ha.eval hx, Instr.sureAddr, Instr.sliceBounds, hs, Sem.run_bind, Addr.add]
end
end Go.Proofs.Ytkmkakpadgljeaa.Fly
