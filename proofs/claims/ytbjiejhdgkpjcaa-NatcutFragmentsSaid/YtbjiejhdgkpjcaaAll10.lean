import Derived.Test.YtbjiejhdgkpjcaaFlyMap
import Derived.Laws.IdiomRangeMap
import Derived.Test.YtbjiejhdgkpjcaaAll9
import Derived.Test.YtbjiejhdgkpjcaaAll7
import Derived.Test.YtbjiejhdgkpjcaaAll6
import Derived.Test.YtbjiejhdgkpjcaaAll0
import Derived.Test.YtbjiejhdgkpjcaaAll8
import Derived.Test.YtbjiejhdgkpjcaaAll4
import Derived.Test.YtbjiejhdgkpjcaaAll5

/- Ranging over a map that the loop does not write, in the words of the small logic. -/

namespace Go.Proofs.Ytbjiejhdgkpjcaa.Fly
open Go Go.RowKit
set_option linter.unusedVariables false
set_option linter.unusedSimpArgs false
set_option linter.unusedSectionVars false

theorem nodup_inj {β γ : Type} {f : β → γ} : ∀ {l : List β} {a b : β}, (l.map f).Nodup → a ∈ l → b ∈ l → f a = f b → a = b
  | [], _, _, _, ha, _, _ => by cases ha
  | x :: l, a, b, h, ha, hb, e => by
    simp only [List.map_cons, List.nodup_cons, List.mem_map, not_exists, not_and] at h
    simp only [List.mem_cons] at ha hb
    rcases ha with rfl | ha <;> rcases hb with rfl | hb
    · rfl
    · exact absurd e.symm (h.1 b hb)
    · exact absurd e (h.1 a ha)
    · exact nodup_inj h.2 ha hb e

section
variable {α : Type} [DecidableEq α]
/-- The keys that have come. -/
structure Came (l : List (α × Value × Nat)) (seen : List Nat) (out : List α) : Prop where
  nodup : out.Nodup
  mem : ∀ e ∈ l, e.1 ∈ out ↔ e.2.2 ∈ seen
  sub : ∀ k ∈ out, k ∈ l.map (·.1)
theorem Came.start {l : List (α × Value × Nat)} : Came l [] [] := ⟨by simp, by simp, by simp⟩
theorem Came.len {l : List (α × Value × Nat)} {seen : List Nat} {out : List α} (h : Came l seen out) : out.length ≤ l.length := by
  have := List.Nodup.length_le_of_subset h.nodup h.sub
  simpa using this
theorem Came.next {l : List (α × Value × Nat)} {c : Nat} {seen : List Nat} {out : List α} (h : Came l seen out) (hok : MOk l c) {e : α × Value × Nat} (he : e ∈ l) (hne : e.2.2 ∉ seen) : Came l (seen ++ [e.2.2]) (out ++ [e.1]) where
  nodup := by
    rw [List.nodup_append]
    refine ⟨h.nodup, by simp, fun a ha b hb e' => ?_⟩
    simp only [List.mem_singleton] at hb
    subst hb; subst e'
    exact hne ((h.mem e he).1 ha)
  mem := fun x hx => by
    simp only [List.mem_append, List.mem_singleton]
    rw [h.mem x hx]
    constructor
    · rintro (h1 | h1)
      · exact .inl h1
      · exact .inr (by rw [nodup_inj hok.keys hx he h1])
    · rintro (h1 | h1)
      · exact .inl h1
      · exact .inr (by rw [nodup_inj (f := fun x => x.2.2) hok.born hx he h1])
  sub := fun k hk => by
    simp only [List.mem_append, List.mem_singleton] at hk
    rcases hk with hk | rfl
    · exact h.sub k hk
    · exact List.mem_map.2 ⟨e, he, rfl⟩
theorem Came.all {l : List (α × Value × Nat)} {seen : List Nat} {out : List α} (h : Came l seen out) (ha : ∀ e ∈ l, e.2.2 ∈ seen) (k : α) : k ∈ out ↔ k ∈ l.map (·.1) :=
  ⟨h.sub k, fun hk => by obtain ⟨e, he, rfl⟩ := List.mem_map.1 hk; exact (h.mem e he).2 (ha e he)⟩
/-- An iterator over a map's block: the stamps of what it has handed out. -/
abbrev itObj (bm c : Nat) (seen : List Nat) : Obj := .mapIter (some bm) c seen.toArray c

variable {P : Program} {n : Nat} {S : Nat → Prop} {w0 : World} {env : Env} {segs : List Seg} {K : Value → List Seg → Prop} {d : Option Tmp} {ty : TypeId} {pos : String} {af : Array Edge} {g : Option (Nat × Bool)} {M k E : TypeId} {enc : α → Value}

theorem o_range {x : Operand} {bm : Nat} {l : List (α × Value × Nat)} {c : Nat} {f : Seg → List Seg} (KT : KeyT P M k E enc) (hx : ev env x = some (.map (some bm))) [hA : At segs bm (mobj enc l c) f]
    (kk : ∀ b, K (.pointer (some ⟨b, 0, none⟩)) ([(b, itObj bm c [])] :: segs)) : Does P n S w0 env segs ⟨d, .range M x, ty, pos, af, g⟩ K :=
  does_of fun a w ha hp => by
    have hb := hp.own bm _ hA.mem
    refine ⟨_, _, w.alloc (itObj bm c []), .inl ?_, by simpa using hp.alloc (itObj bm c []), kk w.heap.size⟩
    simp only [execOp, ha.eval hx, Sem.run_bind, run_range_map w M k E bm _ c KT.und hb, Result.andThen_ok, Sem.run_pure]

theorem left_list (l : List (α × Value × Nat)) (seen : List Nat) : (leftOf (l.map fun x => (⟨enc x.1, x.2.1, x.2.2⟩ : MapEntry)).toArray seen.toArray).toList = (l.filter fun x => !seen.contains x.2.2).map fun x => (⟨enc x.1, x.2.1, x.2.2⟩ : MapEntry) := by
  unfold leftOf
  simp [List.filter_map, Function.comp_def]

theorem run_next_at {w : World} {r bm c : Nat} {seen : List Nat} {l : List (α × Value × Nat)} (ty : TypeId) (hr : w.heap[r]? = some (itObj bm c seen)) (hb : w.heap[bm]? = some (mobj enc l c)) (hok : MOk l c) :
    ((∀ e ∈ l, e.2.2 ∈ seen) ∧ (Instr.next (.pointer (some ⟨r, 0, none⟩)) false ty).run P w = .ok (.tuple #[.bool false]) w) ∨
    ∃ e ∈ l, e.2.2 ∉ seen ∧ ∃ w1 : World, w1.heap = w.heap ∧ w1.os = w.os ∧ w1.tape = w.tape ∧ w1.output = w.output ∧ w.drawn ≤ w1.drawn ∧ (Instr.next (.pointer (some ⟨r, 0, none⟩)) false ty).run P w = .ok (.tuple #[.bool true, enc e.1, e.2.1]) { w1 with heap := w1.heap.setIfInBounds r (itObj bm c (seen ++ [e.2.2])) } := by
  have hold : ∀ x ∈ ((l.map fun x => (⟨enc x.1, x.2.1, x.2.2⟩ : MapEntry)).toArray).toList, x.born < c := fun x hx => by
    simp at hx
    obtain ⟨a, b, s, h, rfl⟩ := hx
    exact hok.old _ h
  simp only [Instr.next, getObj, Sem.run_bind, Sem.run, hr, hb, Result.andThen, next_test_false seen.toArray _ c c hold (Nat.le_refl _), Bool.false_eq_true, if_false]
  have hL := left_list (enc := enc) l seen
  unfold leftOf at hL
  have hmem : ∀ x ∈ (Array.filter (fun e => !seen.toArray.contains e.born) (l.map fun x => (⟨enc x.1, x.2.1, x.2.2⟩ : MapEntry)).toArray).toList, x.born < c := fun x hx => hold x (by simp at hx ⊢; exact hx.1)
  generalize Array.filter (fun e => !seen.toArray.contains e.born) (l.map fun x => (⟨enc x.1, x.2.1, x.2.2⟩ : MapEntry)).toArray = L at hL hmem ⊢
  have e1 : L.filter (fun x => decide (x.born < c)) = L := Array.filter_eq_self.2 (fun x hx => by simpa using hmem x (by simpa using hx))
  have e2 : L.filter (fun x => decide (x.born ≥ c)) = #[] := by
    rw [Array.filter_eq_empty_iff]
    intro x hx
    have := hmem x (by simpa using hx)
    simp; omega
  simp only [e1, e2, Array.append_empty]
  by_cases h0 : L.size = 0
  · left
    have : L = #[] := Array.eq_empty_of_size_eq_zero h0
    subst this
    refine ⟨fun e he => ?_, by simp [choose, Sem.run, Question.forced]⟩
    have hL' := hL.symm
    simp only [List.map_eq_nil_iff] at hL'
    rw [List.filter_eq_nil_iff] at hL'
    have := hL' e he
    simpa using this
  · right
    have hne : L.isEmpty = false := by simp [Array.isEmpty, h0]
    simp only [hne, Bool.false_eq_true, if_false, Array.empty_append, Array.size_map]
    have hch : ∃ (j : Nat) (w1 : World), j < L.size ∧ w1.heap = w.heap ∧ w1.os = w.os ∧ w1.tape = w.tape ∧ w1.output = w.output ∧ w.drawn ≤ w1.drawn ∧ (choose (Question.mapNext L.size)).run P w = .ok j w1 := by
      by_cases hf : L.size ≤ 1
      · exact ⟨0, w, by omega, rfl, rfl, rfl, rfl, Nat.le_refl _, by simp [choose, Sem.run, Question.forced, hf]⟩
      · exact ⟨_, w.drew, Nat.mod_lt _ (by omega), rfl, rfl, rfl, rfl, Nat.le_succ _, by
          simp only [choose, Sem.run, Question.forced, decide_eq_true_eq, hf, if_false, Question.cut]
          rfl⟩
    obtain ⟨j, w1, hj, q1, q2, q3, q4, q5, hrun⟩ := hch
    have hLj : L[j] ∈ L.toList := by simp
    rw [hL] at hLj
    obtain ⟨e, he, hee⟩ := List.mem_map.1 hLj
    obtain ⟨he1, he2⟩ := List.mem_filter.1 he
    refine ⟨e, he1, by simpa using he2, w1, q1, q2, q3, q4, q5, ?_⟩
    have hset : (setObj r (itObj bm c (seen ++ [e.2.2]))).run P w1 = .ok () { w1 with heap := w1.heap.setIfInBounds r (itObj bm c (seen ++ [e.2.2])) } := by
      simp only [setObj, Sem.run]
      rw [q1, hr]
    have hps : seen.toArray.push L[j].born = (seen ++ [e.2.2]).toArray := by rw [← hee]; simp
    simp only [hrun, Array.getElem?_map, Array.getElem?_eq_getElem hj, Option.map_some, Sem.run_bind, hps, hset, Result.andThen]
    rw [← hee]
    rfl

theorem o_next {x : Operand} {r bm c : Nat} {seen : List Nat} {l : List (α × Value × Nat)} {f f' : Seg → List Seg} (hok : MOk l c) (hx : ev env x = some (.pointer (some ⟨r, 0, none⟩))) [hA : At segs r (itObj bm c seen) f] [hB : At segs bm (mobj enc l c) f']
    (kend : (∀ e ∈ l, e.2.2 ∈ seen) → K (.tuple #[.bool false]) segs) (kmore : ∀ e ∈ l, e.2.2 ∉ seen → K (.tuple #[.bool true, enc e.1, e.2.1]) (f [(r, itObj bm c (seen ++ [e.2.2]))])) :
    Does P n S w0 env segs ⟨d, .next x false, ty, pos, af, g⟩ K :=
  does_of fun a w ha hp => by
    have hr := hp.own r _ hA.mem
    have hb := hp.own bm _ hB.mem
    obtain ⟨L, R, e1, e2⟩ := hA.flat
    rcases run_next_at (P := P) (enc := enc) ty hr hb hok with ⟨h1, h2⟩ | ⟨e, he, hne, w1, q1, q2, q3, q4, q5, h2⟩
    · exact ⟨_, _, w, .inl (by simp [execOp, ha.eval hx, h2]), hp, kend h1⟩
    · refine ⟨_, _, { w1 with heap := w1.heap.setIfInBounds r (itObj bm c (seen ++ [e.2.2])) }, .inl (by simp [execOp, ha.eval hx, h2]), ?_, kmore e he hne⟩
      rw [e2]
      rw [e1] at hp
      have hlt : r < w.heap.size := by
        rcases Nat.lt_or_ge r w.heap.size with h' | h'
        · exact h'
        · rw [Array.getElem?_eq_none h'] at hr; cases hr
      refine hp.put (by exact q2) (by exact q3) (by exact q4) (by simp [q1]) (by exact q5) (by simp [q1, hlt]) (fun k hk => ?_)
      have : r ≠ k := fun e => hk e.symm
      simp [q1, Array.getElem?_setIfInBounds, this]

/-- What a step of the iterator says. -/
def Nx (l : List (α × Value × Nat)) (seen : List Nat) (b : Bool) (seen' : List Nat) : Prop := (b = true ∧ ∃ e ∈ l, e.2.2 ∉ seen ∧ seen' = seen ++ [e.2.2]) ∨ (b = false ∧ seen' = seen ∧ ∀ e ∈ l, e.2.2 ∈ seen)

theorem o_next1 {x : Operand} {r bm c : Nat} {seen : List Nat} {l : List (α × Value × Nat)} {f f' : Seg → List Seg} (hok : MOk l c) (hx : ev env x = some (.pointer (some ⟨r, 0, none⟩))) [hA : At segs r (itObj bm c seen) f] [hB : At segs bm (mobj enc l c) f']
    (kk : ∀ (b : Bool) (rest : List Value) (seen' : List Nat), Nx l seen b seen' → K (.tuple (.bool b :: rest).toArray) (f [(r, itObj bm c seen')])) :
    Does P n S w0 env segs ⟨d, .next x false, ty, pos, af, g⟩ K :=
  o_next hok hx (fun h => by
    have e : f [(r, itObj bm c seen)] = segs := by
      obtain ⟨L, R, e1, e2⟩ := hA.eq
      rw [e1, e2]
    have := kk false [] seen (.inr ⟨rfl, rfl, h⟩)
    rwa [e] at this) fun e he hne => kk true [enc e.1, e.2.1] _ (.inl ⟨rfl, e, he, hne, rfl⟩)

theorem o_entry {x : Operand} {r bm c : Nat} {seen : List Nat} {l : List (α × Value × Nat)} {e : α × Value × Nat} {f f' : Seg → List Seg} (hok : MOk l c) (he : e ∈ l) (hx : ev env x = some (.pointer (some ⟨r, 0, none⟩))) [hA : At segs r (itObj bm c (seen ++ [e.2.2])) f] [hB : At segs bm (mobj enc l c) f'] :
    Pure P n S w0 env segs ⟨d, .entry x, ty, pos, af, g⟩ (.tuple #[enc e.1, e.2.1]) :=
  fun a w ha hp => by
    have hr := hp.own r _ hA.mem
    have hb := hp.own bm _ hB.mem
    have hf : ((l.map fun x => (⟨enc x.1, x.2.1, x.2.2⟩ : MapEntry)).toArray).find? (·.born == e.2.2) = some ⟨enc e.1, e.2.1, e.2.2⟩ := by
      rw [← Array.find?_toList]
      exact find_born ⟨enc e.1, e.2.1, e.2.2⟩ _ (by simp only [List.map_map]; exact hok.born) (List.mem_map.2 ⟨e, he, rfl⟩)
    have hbk : (seen ++ [e.2.2]).toArray.back? = some e.2.2 := by simp
    have : (Instr.entry (.pointer (some ⟨r, 0, none⟩))).run P w = .ok (.tuple #[enc e.1, e.2.1]) w := by
      simp only [Instr.entry, getObj, Sem.run_bind, Sem.run, hr, hb, Result.andThen, hbk, bne_self_eq_false, Bool.false_eq_true, if_false, hf]
      rfl
    simp [execOp, ha.eval hx, this]

theorem o_makeC {T E sz bytes : Nat} {z : List Value} {x y : Operand} {kx ky : IntKind} {N : Int} (hT : ElT P T E sz bytes z) (hx : ev env x = some (.int kx 0)) (hy : ev env y = some (.int ky N)) (m : Nat) (hm : N = (m : Int)) (hb : bytes * m ≤ 281474976710656)
    (hN : m ≤ 9223372036854775807) (kk : ∀ b, K (.slice (some ⟨b, 0, none⟩) 0 m) ([(b, blk (List.replicate m z).flatten E)] :: segs)) : Does P n S w0 env segs ⟨d, .makeSlice T x y, ty, pos, af, g⟩ K :=
  does_of fun a w ha hp => by
    obtain ⟨i, v, hi, hz, hc, rfl, rfl⟩ := hT.i
    subst hm
    have hr := run_make (P := P) w T E i v hT.und hi hz kx ky 0 m (by omega) (by omega) (by rw [← Int.natCast_mul]; omega) (by omega)
    rw [Int.toNat_natCast, hc, ← hT.len, madeCells_flat z m (by rw [hT.len]; exact hT.pos)] at hr
    refine ⟨.slice (some ⟨w.heap.size, 0, none⟩) 0 m, [(w.heap.size, blk (List.replicate m z).flatten E)] :: segs, w.alloc (blk (List.replicate m z).flatten E), .inl ?_, hp.alloc _, kk w.heap.size⟩
    simp only [execOp, ha.eval hx, ha.eval hy, hr, Sem.run_bind, Result.andThen_ok, Sem.run_pure]
    rfl

/-- An array's slice. -/
theorem o_sliceA {T E n' sz b : Nat} {x : Operand} (hT : P.underlying T = some (.array n' E)) (hs : ∀ w, (Go.sizeOf E).run P w = .ok sz w) (hx : ev env x = some (.pointer (some ⟨b, 0, none⟩))) : Pure P n S w0 env segs ⟨d, .slice T x none none none, ty, pos, af, g⟩ (.slice (some ⟨b, 0, none⟩) n' n') :=
  fun a w ha _ => by
    simp [execOp, Instr.sliceAt, run_underlying hT, ha.eval hx, Instr.sureAddr, Instr.sliceBounds, hs, Sem.run_bind, Addr.add]
end
end Go.Proofs.Ytbjiejhdgkpjcaa.Fly

/- natcut.Fragments: what a graph falls into where pairs are marked. -/
namespace Go.Proofs.Ytbjiejhdgkpjcaa
open Go Go.RowKit Fly
set_option linter.unusedVariables false
set_option linter.unusedSimpArgs false


theorem Meets.flatN {P : Program} {f : FuncId} {args : List Value} {w : World} {own : List Seg} {Φ Ψ : Value → List Seg → Prop}
    (h : Meets P f args w own Φ) (hi : ∀ v m, Φ v m → ∃ m', Ψ v m' ∧ m'.flatten = m.flatten) : Meets P f args w own Ψ :=
  Calls.mono h fun _ _ ⟨v, m, he, hp, hf⟩ => by
    obtain ⟨m', h1, h2⟩ := hi v m hf
    exact ⟨v, m', he, by rw [h2]; exact hp, h1⟩
def natN (p : List Nat) : List Int := p.map fun x : Nat => (x : Int)
theorem natN_len (p : List Nat) : (natN p).length = p.length := by simp [natN]
theorem natN_ints (p : List Nat) : nats p = ints (natN p) := by simp [nats, natN, ints]
/-- What is wrong with marks. -/
def fE (N : Int) : List Pr → Int
  | [] => 0
  | p :: r => if (p.1 < 0 ∨ N ≤ p.1) ∨ p.2 < 0 ∨ N ≤ p.2 then 5 else if p.2 ≤ p.1 then 4 else fE N r
def fragE (N : Int) (l : List Arc) (M : List Pr) : Int := if (gcheck N l).2 ≠ 0 then (gcheck N l).2 else if 16384 < M.length then 2 else fE N M
/-- The arcs that are not marked. -/
def keepA (M : List Pr) (l : List Arc) : List Arc := l.filter fun a => !decide (prOf a ∈ M)
theorem fE_drop {N : Int} {M : List Pr} {k : Nat} (hk : k < M.length) : fE N (M.drop k) = if (M[k].1 < 0 ∨ N ≤ M[k].1) ∨ M[k].2 < 0 ∨ N ≤ M[k].2 then 5 else if M[k].2 ≤ M[k].1 then 4 else fE N (M.drop (k + 1)) := by
  rw [← List.getElem_cons_drop hk]; rfl
theorem u64_ge {x N : Int} (hx : I64 x) (hN : I64 N) (h0 : 0 ≤ N) : IntKind.u64.wrap N ≤ IntKind.u64.wrap x ↔ x < 0 ∨ N ≤ x := by
  rw [wrap_u64_of hx, wrap_u64_of hN]
  unfold I64 at hx hN
  split <;> split <;> omega
structure MkI (ps : List Pr) (ents : List ((Int × Int) × Value × Nat)) : Prop where
  yes : ∀ q ∈ ps, ∃ c : Int, mget ents q = some (.int .i64 c) ∧ 1 ≤ c ∧ c ≤ (ps.length : Int)
  no : ∀ q, q ∉ ps → mget ents q = none
theorem MkI.nil : MkI [] [] where
  yes := fun q hq => by cases hq
  no := fun q _ => rfl
theorem MkI.val {ps : List Pr} {ents : List ((Int × Int) × Value × Nat)} (h : MkI ps ents) (q : Pr) : ∃ c : Int, (mget ents q).getD (.int .i64 0) = .int .i64 c ∧ 0 ≤ c ∧ c ≤ (ps.length : Int) ∧ (c = 0 ↔ q ∉ ps) := by
  by_cases hq : q ∈ ps
  · obtain ⟨c, h1, h2, h3⟩ := h.yes q hq
    exact ⟨c, by rw [h1]; rfl, by omega, h3, by constructor; intro e; omega; intro e; exact absurd hq e⟩
  · exact ⟨0, by rw [h.no q hq]; rfl, by omega, by omega, by simp [hq]⟩
theorem MkI.add {ps : List Pr} {ents : List ((Int × Int) × Value × Nat)} (h : MkI ps ents) {q : Pr} {c : Int} (hc : (mget ents q).getD (.int .i64 0) = .int .i64 c) (h0 : 0 ≤ c) (h1 : c ≤ (ps.length : Int)) (k : Nat) : MkI (ps ++ [q]) (mput ents q (.int .i64 (c + 1)) k) where
  yes := fun x hx => by
    rw [mget_put]
    by_cases e : x = q
    · rw [if_pos e]; exact ⟨_, rfl, by omega, by simp; omega⟩
    · rw [if_neg e]
      rcases List.mem_append.1 hx with hx | hx
      · obtain ⟨d, h2, h3, h4⟩ := h.yes x hx
        exact ⟨d, h2, h3, by simp; omega⟩
      · exact absurd (List.mem_singleton.1 hx) e
  no := fun x hx => by
    rw [mget_put, if_neg (fun e => hx (by simp [e]))]
    exact h.no x fun hm => hx (by simp [hm])
theorem mget_appN {α : Type} [DecidableEq α] (x : α) (z : Value) (c : Nat) : ∀ l : List (α × Value × Nat), mget l x = none → mget (l ++ [(x, z, c)]) x = some z
  | [], _ => by simp [mget]
  | e :: r, h => by
    unfold mget at h
    split at h
    · cases h
    · rename_i hne
      rw [List.cons_append]; unfold mget; rw [if_neg hne]; exact mget_appN x z c r h
theorem ment_valN {α : Type} [DecidableEq α] (l : List (α × Value × Nat)) (x : α) (z : Value) (c : Nat) : (mget (ment l x z c) x).getD z = (mget l x).getD z := by
  unfold ment
  split
  · rfl
  · rename_i h
    have h' : mget l x = none := by cases hg : mget l x with
      | none => rfl
      | some v => rw [hg] at h; simp at h
    rw [mget_appN x z c l h', h']; rfl
theorem keepA_yes {M : List Pr} {l : List Arc} {i : Nat} (hi : i < l.length) (h : prOf l[i] ∉ M) : keepA M (l.take (i + 1)) = keepA M (l.take i) ++ [l[i]] := by
  unfold keepA; rw [List.take_succ_eq_append_getElem hi, List.filter_append]; simp [h]
theorem keepA_no {M : List Pr} {l : List Arc} {i : Nat} (hi : i < l.length) (h : prOf l[i] ∈ M) : keepA M (l.take (i + 1)) = keepA M (l.take i) := by
  unfold keepA; rw [List.take_succ_eq_append_getElem hi, List.filter_append]; simp [h]
theorem keepA_len (M : List Pr) (l : List Arc) : (keepA M l).length ≤ l.length := List.length_filter_le _ _
theorem keepA_good {n : Nat} {l : List Arc} (hg : (gcheck (n : Int) l).2 = 0) (M : List Pr) : (gcheck (n : Int) (keepA M l)).2 = 0 := by
  obtain ⟨h1, h2, h3, h4⟩ := gcheck_zero hg
  rw [gcheck_ok ⟨by omega, by omega⟩ (by have := keepA_len M l; omega) fun j hj => ?_]
  have hm := (List.mem_filter.1 (List.getElem_mem hj)).1
  obtain ⟨i, hi, e⟩ := List.mem_iff_getElem.1 hm
  have := h4 i hi
  rw [e] at this
  unfold arcBad; simp; omega
theorem keepA_ok {l : List Arc} (M : List Pr) (hok : ∀ x ∈ l, ArcOk x) : ∀ x ∈ keepA M l, ArcOk x := fun x hx => hok x (List.mem_filter.1 hx).1


theorem PartsN_spec (N : Int) (A : Option Addr) (l : List Arc) (cap : Nat) (w : World) (hr : Ro (Fr w []) w A (l.flatMap arcCs)) (hl : l.length ≤ 9223372036854775807) (hN : I64 N) (hok : ∀ x ∈ l, ArcOk x) :
    Meets Try.prog 26 [.agg #[.int .i64 N, .slice A l.length cap]] w [] (fun u own' => ∃ (P : List Int) (A' : Option Addr) (c : Nat) (m' : Seg), u = .tuple #[.slice A' P.length c, .int .i64 (gcheck N l).2] ∧ own' = [m'] ∧ Own 3 1 (.slice A' P.length c) P.length (ints P) m' ∧ ((gcheck N l).2 = 0 → ∃ p, P = natN p ∧ IsParts N.toNat (ends2 l) p) ∧ ((gcheck N l).2 ≠ 0 → P = [])) := by
  refine Meets.flatN (Parts_spec N A l cap w hr hl hN hok) fun v m h => ?_
  by_cases hg : (gcheck N l).2 = 0
  · rw [if_pos hg] at h
    obtain ⟨p, b, rfl, rfl, hp⟩ := h
    have hlen : (natN p).length = N.toNat := by rw [natN_len, hp.len]
    have hb := gcheck_zero hg
    refine ⟨_, ⟨natN p, some ⟨b, 0, none⟩, N.toNat, [(b, blk (nats p) 3)], by rw [hlen, hg], rfl, ?_, fun _ => ⟨p, rfl, hp⟩, fun h => absurd hg h⟩, rfl⟩
    rw [natN_ints, hlen]
    exact Own.mk (by rw [ints_length, hlen]; omega) (by omega)
  · rw [if_neg hg] at h
    obtain ⟨rfl, rfl⟩ := h
    exact ⟨[[]], ⟨[], none, 0, [], rfl, rfl, Own.nil _ _, fun h => absurd h hg, fun _ => rfl⟩, rfl⟩

set_option maxRecDepth 100000 in
set_option maxHeartbeats 4000000 in
theorem Fragments_spec (N : Int) (A B : Option Addr) (l : List Arc) (cap : Nat) (M : List Pr) (cb : Nat) (w : World) (hr : Ro (Fr w []) w A (l.flatMap arcCs)) (hl : l.length ≤ 9223372036854775807) (hN : I64 N) (hok : ∀ x ∈ l, ArcOk x) (hM : Ro (Fr w []) w B (M.flatMap prCs)) (hm : M.length ≤ 9223372036854775807) (hMk : ∀ p ∈ M, I64 p.1 ∧ I64 p.2) :
    Meets Try.prog 15 [.agg #[.int .i64 N, .slice A l.length cap], .slice B M.length cb] w [] (fun u own' => ∃ (P : List Int) (A' : Option Addr) (c : Nat) (m' : Seg), u = .tuple #[.slice A' P.length c, .int .i64 (fragE N l M)] ∧ own' = [m'] ∧ Own 3 1 (.slice A' P.length c) P.length (ints P) m' ∧ (fragE N l M = 0 → ∃ p, P = natN p ∧ IsParts N.toNat (ends2 (keepA M l)) p) ∧ (fragE N l M ≠ 0 → P = [])) := by
 refine f_enter Try.func15 rfl Try.ntmps15 rfl Owns.nil ?_
 refine f_seq fun K1 kh1 => ?_
 refine f_region ?_
 refine f_step rfl rfl rfl (o_box rfl rfl fun b2 => ?_)
 refine f_stepP rfl rfl rfl (o_assign rfl) ?_
 refine f_stepP rfl rfl rfl (o_assign rfl) ?_
 refine f_done ?_
 refine f_tn (kh1 _ _ ?_)
 clear kh1
 refine f_seq fun K2 kh2 => ?_
 refine f_seq fun K3 kh3 => ?_
 refine f_region ?_
 refine f_stepP rfl rfl rfl (o_loadA (vs := [_, _]) Try.isAgg24 Try.sizeOf24 rfl rfl ⟨(rdA rfl), (rdA rfl), trivial⟩) ?_
 refine f_step rfl rfl rfl (o_call Try.call37 rfl (fun w_ hp_ => Check_spec N A l cap w_ (hr.up0 hp_) hl hN hok) ?_)
 rintro _ _ ⟨rfl, rfl⟩
 dsimp only [List.cons_append, List.nil_append]
 refine f_stepP rfl rfl rfl (o_move rfl) ?_
 refine f_stepP rfl rfl rfl (o_extract rfl rfl) ?_
 refine f_stepP rfl rfl rfl (o_extract rfl rfl) ?_
 refine f_stepP rfl rfl rfl (o_assign rfl) ?_
 refine f_stepP rfl rfl rfl (o_assign rfl) ?_
 refine f_done ?_
 refine f_tn (kh3 _ _ ?_)
 clear kh3
 refine f_seq fun K4 kh4 => ?_
 refine f_region ?_
 refine f_stepP rfl rfl rfl (o_move rfl) ?_
 refine f_stepP rfl rfl rfl (o_neq rfl rfl) ?_
 refine f_done ?_
 refine f_tn (kh4 _ _ ?_)
 clear kh4
 refine f_cond rfl (fun c20 => ?_) (fun c20 => ?_)
 ·
  refine f_seq fun K5 kh5 => ?_
  refine f_region ?_
  refine f_stepP rfl rfl rfl (o_move rfl) ?_
  refine f_stepP rfl rfl rfl (o_assign rfl) ?_
  refine f_stepP rfl rfl rfl (o_assign rfl) ?_
  refine f_done ?_
  refine f_tn (kh5 _ _ ?_)
  clear kh5
  refine f_ret ?_
  refine f_tr ?_
  have c20' : (gcheck N l).2 ≠ 0 := by simpa using c20
  have hfe : fragE N l M = (gcheck N l).2 := by unfold fragE; rw [if_pos c20']
  exact f_fin2 [[]] Try.results15 rfl rfl (show Fly.Sub _ [[]] from (by repeat (first | exact Sub.nil | refine Sub.pick ?_ | refine Sub.castO rfl ?_ | refine Sub.skip ?_))) ⟨[], none, 0, [], by rw [hfe]; rfl, rfl, Own.nil _ _, fun h => absurd (hfe.symm.trans h) c20', fun _ => rfl⟩
 ·
  have hg : (gcheck N l).2 = 0 := by simpa using c20
  obtain ⟨hg1, hg2, hgl, hgd⟩ := gcheck_zero hg
  obtain ⟨n, rfl⟩ : ∃ n : Nat, N = (n : Int) := ⟨N.toNat, by omega⟩
  refine f_skip ?_
  refine f_tn (kh2 _ _ ?_)
  clear kh2
  refine f_seq fun K6 kh6 => ?_
  refine f_seq fun K7 kh7 => ?_
  refine f_region ?_
  refine f_stepP rfl rfl rfl (o_move rfl) ?_
  refine f_stepP rfl rfl rfl (o_len sl28 rfl) ?_
  refine f_stepP rfl rfl rfl (o_gtr rfl rfl) ?_
  refine f_done ?_
  refine f_tn (kh7 _ _ ?_)
  clear kh7
  refine f_cond rfl (fun c24 => ?_) (fun c24 => ?_)
  ·
   refine f_seq fun K8 kh8 => ?_
   refine f_region ?_
   refine f_stepP rfl rfl rfl (o_assign rfl) ?_
   refine f_stepP rfl rfl rfl (o_assign rfl) ?_
   refine f_done ?_
   refine f_tn (kh8 _ _ ?_)
   clear kh8
   refine f_ret ?_
   refine f_tr ?_
   have hfe : fragE (n : Int) l M = 2 := by unfold fragE; rw [if_neg (by rw [hg]; simp), if_pos (by omega)]
   exact f_fin2 [[]] Try.results15 rfl rfl (show Fly.Sub _ [[]] from (by repeat (first | exact Sub.nil | refine Sub.pick ?_ | refine Sub.castO rfl ?_ | refine Sub.skip ?_))) ⟨[], none, 0, [], by rw [hfe]; rfl, rfl, Own.nil _ _, fun h => absurd (hfe.symm.trans h) (by decide), fun _ => rfl⟩
  ·
   refine f_skip ?_
   refine f_tn (kh6 _ _ ?_)
   clear kh6
   refine f_seq fun K9 kh9 => ?_
   refine f_region ?_
   refine f_step rfl rfl rfl (o_makeMap fun b25 => ?_)
   refine f_stepP rfl rfl rfl (o_assign rfl) ?_
   refine f_done ?_
   refine f_tn (kh9 _ _ ?_)
   clear kh9
   refine f_seq fun K10 kh10 => ?_
   refine f_seq fun K11 kh11 => ?_
   refine f_region ?_
   refine f_stepP rfl rfl rfl (o_move rfl) ?_
   refine f_stepP rfl rfl rfl (o_len sl28 rfl) ?_
   refine f_stepP rfl rfl rfl (o_move rfl) ?_
   refine f_done ?_
   refine f_tn (kh11 _ _ ?_)
   clear kh11
   refine f_block ?_
   refine f_loop (α := Nat × List ((Int × Int) × Value × Nat) × Nat) [2, 8, 26, 27] (fun ⟨k, ents, c1⟩ => [(28, .int .i64 (k : Int))]) (fun ⟨k, ents, c1⟩ => [[(b25, mobj enc2 ents c1)], [(b2, blk [.int .i64 (n : Int), .slice A l.length cap] 24)]]) (fun ⟨k, ents, c1⟩ => k ≤ M.length ∧ MOk ents c1 ∧ MkI (M.take k) ents ∧ fE (n : Int) M = fE (n : Int) (M.drop k)) (fun ⟨k, ents, c1⟩ => M.length - k) (0, [], 0) ?_ ?_ ?_ ?_
   · exact (by repeat (first | exact trivial | refine ⟨rfl, ?_⟩))
   · repeat (first | exact Sub.nil | refine Sub.pick ?_ | refine Sub.castO rfl ?_ | refine Sub.skip ?_)
   · exact ⟨by omega, MOk.nil, MkI.nil, rfl⟩
   ·
    rintro ⟨k, ents, c1⟩ ⟨hkl, hmap, hmk, hfe⟩
    refine f_seq fun K12 kh12 => ?_
    refine f_region ?_
    refine f_stepP rfl rfl rfl (o_lss rfl rfl) ?_
    refine f_done ?_
    refine f_tn (kh12 _ _ ?_)
    clear kh12
    refine f_seq fun K13 kh13 => ?_
    refine f_cond rfl (fun c29 => ?_) (fun c29 => ?_)
    ·
     have hk : k < M.length := by omega
     obtain ⟨bp, op, rfl, hSp, hcp⟩ := hM (flat_ne prCs prCs_len (by omega) hk)
     have hMi := hMk _ (List.getElem_mem hk)
     have hw1 := u64_ge hMi.1 hN (by omega)
     have hw2 := u64_ge hMi.2 hN (by omega)
     have hdr := fE_drop (N := (n : Int)) hk
     obtain ⟨c, hc, hc0, hc1, _⟩ := hmk.val M[k]
     have htk : M.take (k + 1) = M.take k ++ [M[k]] := List.take_succ_eq_append_getElem hk
     have hti : (M.take k).length = k := by rw [List.length_take]; omega
     have hmk2 := hmk.add hc hc0 hc1 c1
     rw [← htk] at hmk2
     rw [hti] at hc1
     refine f_skip ?_
     refine f_tn (kh13 _ _ ?_)
     clear kh13
     refine f_seq fun K14 kh14 => ?_
     refine f_block ?_
     refine f_seq fun K15 kh15 => ?_
     refine f_region ?_
     refine f_stepP rfl rfl rfl (o_idx sl28 rfl rfl (op + k * 2) ⟨by omega, by omega, by first | omega | (simp; done) | (simp; omega)⟩) ?_
     refine f_stepP rfl rfl rfl (o_loadA (vs := prCs M[k]) Try.isAgg47 Try.sizeOf47 rfl rfl (roElem prCs_len hSp hcp hk)) ?_
     refine f_step rfl rfl rfl (o_alloc Try.zeroValue47 rfl fun b10 => ?_)
     refine f_step0 rfl rfl (o_storeA Try.sizeOf47 rfl rfl rfl rfl (by first | exact Nat.le_of_ble_eq_true rfl | (simp; done) | (simp; omega)) (prCs M[k]) rfl ?_)
     refine f_done ?_
     refine f_tn (kh15 _ _ ?_)
     clear kh15
     refine f_seq fun K16 kh16 => ?_
     refine f_block ?_
     refine f_seq fun K17 kh17 => ?_
     refine f_region ?_
     refine f_stepP rfl rfl rfl (o_field fa47_0 rfl) ?_
     refine f_stepP rfl rfl rfl (o_load Try.isAgg3 rfl (rdA rfl)) ?_
     refine f_stepP rfl rfl rfl (o_conv Try.runUnderlying3 Try.runUnderlying72 rfl _ rfl) ?_
     refine f_stepP rfl rfl rfl (o_field fa24_0 rfl) ?_
     refine f_stepP rfl rfl rfl (o_load Try.isAgg3 rfl (rdA rfl)) ?_
     refine f_stepP rfl rfl rfl (o_conv Try.runUnderlying3 Try.runUnderlying72 rfl _ rfl) ?_
     refine f_stepP rfl rfl rfl (o_geq rfl rfl) ?_
     refine f_stepP rfl rfl rfl (o_move rfl) ?_
     refine f_splitL 40 rfl (fun g40 => ?_) (fun g40 => ?_)
     ·
      refine f_stepN rfl rfl rfl rfl rfl rfl ?_
      refine f_stepN rfl rfl rfl rfl rfl rfl ?_
      refine f_stepN rfl rfl rfl rfl rfl rfl ?_
      refine f_stepN rfl rfl rfl rfl rfl rfl ?_
      refine f_stepN rfl rfl rfl rfl rfl rfl ?_
      refine f_stepN rfl rfl rfl rfl rfl rfl ?_
      refine f_stepN rfl rfl rfl rfl rfl rfl ?_
      refine f_stepP rfl rfl rfl (o_pickT rfl rfl) ?_
      refine f_stepP rfl rfl rfl (o_assign rfl) ?_
      refine f_done ?_
      refine f_tn (kh17 _ _ ?_)
      clear kh17
      refine f_condT rfl ?_
      refine f_seq fun K18 kh18 => ?_
      refine f_region ?_
      refine f_stepP rfl rfl rfl (o_assign rfl) ?_
      refine f_stepP rfl rfl rfl (o_assign rfl) ?_
      refine f_done ?_
      refine f_tn (kh18 _ _ ?_)
      clear kh18
      refine f_ret ?_
      refine f_br ?_
      refine f_tr ?_
      refine f_br ?_
      refine f_tr ?_
      refine f_tr ?_
      refine f_br ?_
      refine f_tr ?_
      have hfe : fragE (n : Int) l M = 5 := by unfold fragE; rw [if_neg (by rw [hg]; simp), if_neg (by omega), hfe, hdr, if_pos (by omega)]
      exact f_fin2 [[]] Try.results15 rfl rfl (show Fly.Sub _ [[]] from (by repeat (first | exact Sub.nil | refine Sub.pick ?_ | refine Sub.castO rfl ?_ | refine Sub.skip ?_))) ⟨[], none, 0, [], by rw [hfe]; rfl, rfl, Own.nil _ _, fun h => absurd (hfe.symm.trans h) (by decide), fun _ => rfl⟩
     ·
      refine f_stepPY rfl rfl rfl rfl rfl (o_field fa47_1 rfl) ?_
      refine f_stepPY rfl rfl rfl rfl rfl (o_load Try.isAgg3 rfl (rdA rfl)) ?_
      refine f_stepPY rfl rfl rfl rfl rfl (o_conv Try.runUnderlying3 Try.runUnderlying72 rfl _ rfl) ?_
      refine f_stepPY rfl rfl rfl rfl rfl (o_field fa24_0 rfl) ?_
      refine f_stepPY rfl rfl rfl rfl rfl (o_load Try.isAgg3 rfl (rdA rfl)) ?_
      refine f_stepPY rfl rfl rfl rfl rfl (o_conv Try.runUnderlying3 Try.runUnderlying72 rfl _ rfl) ?_
      refine f_stepPY rfl rfl rfl rfl rfl (o_geq rfl rfl) ?_
      refine f_stepP rfl rfl rfl (o_pickF rfl rfl) ?_
      refine f_stepP rfl rfl rfl (o_assign rfl) ?_
      refine f_done ?_
      refine f_tn (kh17 _ _ ?_)
      clear kh17
      refine f_cond rfl (fun c32 => ?_) (fun c32 => ?_)
      ·
       refine f_seq fun K19 kh19 => ?_
       refine f_region ?_
       refine f_stepP rfl rfl rfl (o_assign rfl) ?_
       refine f_stepP rfl rfl rfl (o_assign rfl) ?_
       refine f_done ?_
       refine f_tn (kh19 _ _ ?_)
       clear kh19
       refine f_ret ?_
       refine f_br ?_
       refine f_tr ?_
       refine f_br ?_
       refine f_tr ?_
       refine f_tr ?_
       refine f_br ?_
       refine f_tr ?_
       have hfe : fragE (n : Int) l M = 5 := by unfold fragE; rw [if_neg (by rw [hg]; simp), if_neg (by omega), hfe, hdr, if_pos (by omega)]
       exact f_fin2 [[]] Try.results15 rfl rfl (show Fly.Sub _ [[]] from (by repeat (first | exact Sub.nil | refine Sub.pick ?_ | refine Sub.castO rfl ?_ | refine Sub.skip ?_))) ⟨[], none, 0, [], by rw [hfe]; rfl, rfl, Own.nil _ _, fun h => absurd (hfe.symm.trans h) (by decide), fun _ => rfl⟩
      ·
       refine f_seq fun K20 kh20 => ?_
       refine f_region ?_
       refine f_stepP rfl rfl rfl (o_field fa47_0 rfl) ?_
       refine f_stepP rfl rfl rfl (o_load Try.isAgg3 rfl (rdA rfl)) ?_
       refine f_stepP rfl rfl rfl (o_field fa47_1 rfl) ?_
       refine f_stepP rfl rfl rfl (o_load Try.isAgg3 rfl (rdA rfl)) ?_
       refine f_stepP rfl rfl rfl (o_geq rfl rfl) ?_
       refine f_stepP rfl rfl rfl (o_assign rfl) ?_
       refine f_done ?_
       refine f_tn (kh20 _ _ ?_)
       clear kh20
       refine f_cond rfl (fun c49 => ?_) (fun c49 => ?_)
       ·
        refine f_seq fun K21 kh21 => ?_
        refine f_region ?_
        refine f_stepP rfl rfl rfl (o_assign rfl) ?_
        refine f_stepP rfl rfl rfl (o_assign rfl) ?_
        refine f_done ?_
        refine f_tn (kh21 _ _ ?_)
        clear kh21
        refine f_ret ?_
        refine f_br ?_
        refine f_tr ?_
        refine f_br ?_
        refine f_tr ?_
        refine f_tr ?_
        refine f_br ?_
        refine f_tr ?_
        have hfe : fragE (n : Int) l M = 4 := by unfold fragE; rw [if_neg (by rw [hg]; simp), if_neg (by omega), hfe, hdr, if_neg (by omega), if_pos (by omega)]
        exact f_fin2 [[]] Try.results15 rfl rfl (show Fly.Sub _ [[]] from (by repeat (first | exact Sub.nil | refine Sub.pick ?_ | refine Sub.castO rfl ?_ | refine Sub.skip ?_))) ⟨[], none, 0, [], by rw [hfe]; rfl, rfl, Own.nil _ _, fun h => absurd (hfe.symm.trans h) (by decide), fun _ => rfl⟩
       ·
        refine f_skip ?_
        refine f_bn ?_
        refine f_tn (kh16 _ _ ?_)
        clear kh16
        refine f_regionH [[(b10, blk [.int .i64 M[k].1, .int .i64 M[k].2] 47)]] rfl ?_
        refine f_take 0 rfl (by decide +kernel) rfl rfl rfl (by repeat (first | exact Sub.nil | refine Sub.pick ?_ | refine Sub.castO rfl ?_ | refine Sub.skip ?_)) (o_move rfl) ?_
        refine f_take 1 rfl (by decide +kernel) rfl rfl rfl (by repeat (first | exact Sub.nil | refine Sub.pick ?_ | refine Sub.castO rfl ?_ | refine Sub.skip ?_)) (o_loadA (vs := prCs M[k]) Try.isAgg47 Try.sizeOf47 rfl rfl ⟨(rdA rfl), (rdA rfl), trivial⟩) ?_
        refine f_two 2 4 rfl rfl (by decide +kernel) rfl rfl rfl rfl rfl rfl ?_ ?_
        ·
         refine (o_lookup kt71 Try.zeroValue3 rfl rfl rfl (key := M[k]) (.int .i64 c) (by first | exact hc | exact (ment_valN _ _ _ _).trans hc)).does ⟨(by repeat (first | exact Sub.nil | refine Sub.pick ?_ | refine Sub.castO rfl ?_ | refine Sub.skip ?_)), ?_⟩
         refine f_take 3 rfl (by decide +kernel) rfl rfl rfl (by repeat (first | exact Sub.nil | refine Sub.pick ?_ | refine Sub.castO rfl ?_ | refine Sub.skip ?_)) (o_add rfl rfl _ (wrap_i64 (by omega))) ?_
         refine f_only 4 rfl (by decide +kernel) rfl rfl rfl (o_mapEntry kt71 Try.zeroValue3 rfl rfl rfl (key := M[k]) _ rfl ⟨(by repeat (first | exact Sub.nil | refine Sub.pick ?_ | refine Sub.castO rfl ?_ | refine Sub.skip ?_)), ?_⟩)
         refine f_take 5 rfl (by decide +kernel) rfl rfl rfl (by repeat (first | exact Sub.nil | refine Sub.pick ?_ | refine Sub.castO rfl ?_ | refine Sub.skip ?_)) (o_extract rfl rfl) ?_
         refine f_only0 6 rfl (by decide +kernel) rfl rfl (o_entryStore (key := M[k]) hmap rfl rfl rfl ⟨(by repeat (first | exact Sub.nil | refine Sub.pick ?_ | refine Sub.castO rfl ?_ | refine Sub.skip ?_)), ?_⟩)
         refine f_over (by decide +kernel) ?_
         refine f_bn ?_
         refine f_tn (kh14 _ _ ?_)
         clear kh14
         refine f_region ?_
         refine f_stepP rfl rfl rfl (o_add rfl rfl _ (wrap_i64 (by omega))) ?_
         refine f_stepP rfl rfl rfl (o_move rfl) ?_
         refine f_done ?_
         refine f_tn (f_again (k + 1, mput ents M[k] (.int .i64 (c + 1)) c1, mclock ents M[k] c1) (by first | omega | (dsimp only; omega) | (simp; omega)) ⟨by omega, hmap.put _ _, hmk2, hfe.trans (hdr.trans (by rw [if_neg (by omega), if_neg (by omega)]))⟩ ?_ ?_ ?_)
         · exact (by repeat (first | exact trivial | refine ⟨rfl, ?_⟩))
         · exact (by repeat (first | exact trivial | refine ⟨rfl, ?_⟩))
         · repeat (first | exact Sub.nil | refine Sub.pick ?_ | refine Sub.castO rfl ?_ | refine Sub.skip ?_)
        ·
         refine (o_mapEntry kt71 Try.zeroValue3 rfl rfl rfl (key := M[k]) _ rfl ⟨(by repeat (first | exact Sub.nil | refine Sub.pick ?_ | refine Sub.castO rfl ?_ | refine Sub.skip ?_)), ?_⟩)
         refine f_take 5 rfl (by decide +kernel) rfl rfl rfl (by repeat (first | exact Sub.nil | refine Sub.pick ?_ | refine Sub.castO rfl ?_ | refine Sub.skip ?_)) (o_extract rfl rfl) ?_
         refine f_only 2 rfl (by decide +kernel) rfl rfl rfl ((o_lookup kt71 Try.zeroValue3 rfl rfl rfl (key := M[k]) (.int .i64 c) (by first | exact hc | exact (ment_valN _ _ _ _).trans hc)).does ⟨(by repeat (first | exact Sub.nil | refine Sub.pick ?_ | refine Sub.castO rfl ?_ | refine Sub.skip ?_)), ?_⟩)
         refine f_take 3 rfl (by decide +kernel) rfl rfl rfl (by repeat (first | exact Sub.nil | refine Sub.pick ?_ | refine Sub.castO rfl ?_ | refine Sub.skip ?_)) (o_add rfl rfl _ (wrap_i64 (by omega))) ?_
         refine f_only0 6 rfl (by decide +kernel) rfl rfl (o_entryStore (key := M[k]) hmap rfl rfl rfl ⟨(by repeat (first | exact Sub.nil | refine Sub.pick ?_ | refine Sub.castO rfl ?_ | refine Sub.skip ?_)), ?_⟩)
         refine f_over (by decide +kernel) ?_
         refine f_bn ?_
         refine f_tn (kh14 _ _ ?_)
         clear kh14
         refine f_region ?_
         refine f_stepP rfl rfl rfl (o_add rfl rfl _ (wrap_i64 (by omega))) ?_
         refine f_stepP rfl rfl rfl (o_move rfl) ?_
         refine f_done ?_
         refine f_tn (f_again (k + 1, mput ents M[k] (.int .i64 (c + 1)) c1, mclock ents M[k] c1) (by first | omega | (dsimp only; omega) | (simp; omega)) ⟨by omega, hmap.put _ _, hmk2, hfe.trans (hdr.trans (by rw [if_neg (by omega), if_neg (by omega)]))⟩ ?_ ?_ ?_)
         · exact (by repeat (first | exact trivial | refine ⟨rfl, ?_⟩))
         · exact (by repeat (first | exact trivial | refine ⟨rfl, ?_⟩))
         · repeat (first | exact Sub.nil | refine Sub.pick ?_ | refine Sub.castO rfl ?_ | refine Sub.skip ?_)
    ·
     obtain rfl : k = M.length := by omega
     rw [List.take_length] at hmk
     rw [List.drop_length] at hfe
     have hfz : fragE (n : Int) l M = 0 := by unfold fragE; rw [if_neg (by rw [hg]; simp), if_neg (by omega), hfe]; rfl
     refine f_exit ?_
     refine f_te ?_
     clear kh13
     refine f_te ?_
     refine f_be ?_
     refine f_tn (kh10 _ _ ?_)
     clear kh10
     refine f_seq fun K22 kh22 => ?_
     refine f_region ?_
     refine f_stepP rfl rfl rfl (o_field fa24_0 rfl) ?_
     refine f_stepP rfl rfl rfl (o_load Try.isAgg3 rfl (rdA rfl)) ?_
     refine f_stepP rfl rfl rfl (o_build (cs := [.int .i64 (n : Int), .slice none 0 0]) st24 rfl rfl) ?_
     refine f_step rfl rfl rfl (o_alloc Try.zeroValue24 rfl fun b11 => ?_)
     refine f_step0 rfl rfl (o_storeA Try.sizeOf24 rfl rfl rfl rfl (by first | exact Nat.le_of_ble_eq_true rfl | (simp; done) | (simp; omega)) [.int .i64 (n : Int), .slice none 0 0] rfl ?_)
     refine f_done ?_
     refine f_tn (kh22 _ _ ?_)
     clear kh22
     refine f_seq fun K23 kh23 => ?_
     refine f_seq fun K24 kh24 => ?_
     refine f_region ?_
     refine f_stepP rfl rfl rfl (o_field fa24_1 rfl) ?_
     refine f_stepP rfl rfl rfl (o_load Try.isAgg22 rfl (rdA rfl)) ?_
     refine f_stepP rfl rfl rfl (o_len sl22 rfl) ?_
     refine f_stepP rfl rfl rfl (o_move rfl) ?_
     refine f_done ?_
     refine f_tn (kh24 _ _ ?_)
     clear kh24
     refine f_block ?_
     refine f_loop (α := Nat × Value × Seg) [8, 11, 66, 67] (fun ⟨i, sa, ma⟩ => [(68, .int .i64 (i : Int))]) (fun ⟨i, sa, ma⟩ => [[(b11, blk [.int .i64 (n : Int), sa] 24)], ma, [(b25, mobj enc2 ents c1)]]) (fun ⟨i, sa, ma⟩ => i ≤ l.length ∧ Own 55 3 sa (keepA M (l.take i)).length ((keepA M (l.take i)).flatMap arcCs) ma) (fun ⟨i, sa, ma⟩ => l.length - i) (0, .slice none 0 0, []) ?_ ?_ ?_ ?_
     · exact (by repeat (first | exact trivial | refine ⟨rfl, ?_⟩))
     · repeat (first | exact Sub.nil | refine Sub.pick ?_ | refine Sub.castO rfl ?_ | refine Sub.skip ?_)
     · exact ⟨by omega, Own.nil _ _⟩
     ·
      rintro ⟨i, sa, ma⟩ ⟨hil, hO⟩
      have hkl2 := keepA_len M (l.take i)
      rw [List.length_take] at hkl2
      obtain ⟨A11, c11, rfl, hc11⟩ := hO.val
      refine f_envC (e := [(68, _), (8, _), (11, _), (66, _), (67, _)]) (by repeat (first | exact trivial | refine ⟨rfl, ?_⟩)) ?_
      refine f_seq fun K25 kh25 => ?_
      refine f_region ?_
      refine f_stepP rfl rfl rfl (o_lss rfl rfl) ?_
      refine f_done ?_
      refine f_tn (kh25 _ _ ?_)
      clear kh25
      refine f_seq fun K26 kh26 => ?_
      refine f_cond rfl (fun c69 => ?_) (fun c69 => ?_)
      ·
       have hi : i < l.length := by omega
       obtain ⟨bl, off, rfl, hS, hcs⟩ := hr (flat_ne arcCs arcCs_len (by omega) hi)
       obtain ⟨c, hc, hc0, hc1, hciff⟩ := hmk.val (prOf l[i])
       refine f_skip ?_
       refine f_tn (kh26 _ _ ?_)
       clear kh26
       refine f_seq fun K27 kh27 => ?_
       refine f_block ?_
       refine f_seq fun K28 kh28 => ?_
       refine f_region ?_
       refine f_stepP rfl rfl rfl (o_idx sl22 rfl rfl (off + i * 3) ⟨by omega, by omega, by first | omega | (simp; done) | (simp; omega)⟩) ?_
       refine f_stepP rfl rfl rfl (o_loadA (vs := arcCs l[i]) Try.isAgg55 Try.sizeOf55 rfl rfl (roElem arcCs_len hS hcs hi)) ?_
       refine f_step rfl rfl rfl (o_alloc Try.zeroValue55 rfl fun b13 => ?_)
       refine f_step0 rfl rfl (o_storeA Try.sizeOf55 rfl rfl rfl rfl (by first | exact Nat.le_of_ble_eq_true rfl | (simp; done) | (simp; omega)) (arcCs l[i]) rfl ?_)
       refine f_done ?_
       refine f_tn (kh28 _ _ ?_)
       clear kh28
       refine f_seq fun K29 kh29 => ?_
       refine f_region ?_
       refine f_stepP rfl rfl rfl (o_move rfl) ?_
       refine f_stepP rfl rfl rfl (o_field fa55_0 rfl) ?_
       refine f_stepP rfl rfl rfl (o_load Try.isAgg3 rfl (rdA rfl)) ?_
       refine f_stepP rfl rfl rfl (o_field fa55_1 rfl) ?_
       refine f_stepP rfl rfl rfl (o_load Try.isAgg3 rfl (rdA rfl)) ?_
       refine f_stepP rfl rfl rfl (o_min rfl rfl) ?_
       refine f_stepP rfl rfl rfl (o_field fa55_0 rfl) ?_
       refine f_stepP rfl rfl rfl (o_load Try.isAgg3 rfl (rdA rfl)) ?_
       refine f_stepP rfl rfl rfl (o_field fa55_1 rfl) ?_
       refine f_stepP rfl rfl rfl (o_load Try.isAgg3 rfl (rdA rfl)) ?_
       refine f_stepP rfl rfl rfl (o_max rfl rfl) ?_
       refine f_stepP rfl rfl rfl (o_build (cs := [.int .i64 (min l[i].src l[i].dst), .int .i64 (max l[i].src l[i].dst)]) st47 rfl rfl) ?_
       refine f_stepP rfl rfl rfl (o_lookup kt71 Try.zeroValue3 rfl rfl rfl (key := prOf l[i]) (.int .i64 c) hc) ?_
       refine f_stepP rfl rfl rfl (o_eql rfl rfl) ?_
       refine f_done ?_
       refine f_tn (kh29 _ _ ?_)
       clear kh29
       refine f_cond rfl (fun c85 => ?_) (fun c85 => ?_)
       ·
        have hni : prOf l[i] ∉ M := hciff.1 (by simpa using c85)
        have hky := keepA_yes hi hni
        refine f_region ?_
        refine f_stepP rfl rfl rfl (o_field fa24_1 rfl) ?_
        refine f_stepP rfl rfl rfl (o_load Try.isAgg22 rfl (rdA rfl)) ?_
        refine f_stepP rfl rfl rfl (o_loadA (vs := [_, _, _]) Try.isAgg55 Try.sizeOf55 rfl rfl ⟨(rdA rfl), (rdA rfl), (rdA rfl), trivial⟩) ?_
        refine f_step rfl rfl rfl (o_slice1 el22 (by omega) rfl rfl rfl fun b89 => ?_)
        refine f_step rfl rfl rfl (o_append el22 rfl rfl hO (ys := arcCs l[i]) ⟨(rdA rfl), (rdA rfl), (rdA rfl), trivial⟩ rfl rfl (by omega) (by omega) fun v90 m90 o90 => ?_)
        obtain ⟨A90, c90, rfl, _⟩ := o90.val
        refine f_stepP rfl rfl rfl (o_field fa24_1 rfl) ?_
        refine f_step0 rfl rfl (o_store Try.sizeOf22 rfl rfl rfl rfl (by first | exact Nat.le_of_ble_eq_true rfl | (simp; done) | (simp; omega)) [.int .i64 (n : Int), .slice A90 ((keepA M (l.take i)).length + 1) c90] rfl ?_)
        refine f_done ?_
        refine f_bn ?_
        refine f_tn (kh27 _ _ ?_)
        clear kh27
        refine f_region ?_
        refine f_stepP rfl rfl rfl (o_add rfl rfl _ (wrap_i64 (by omega))) ?_
        refine f_stepP rfl rfl rfl (o_move rfl) ?_
        refine f_done ?_
        refine f_tn (f_again (i + 1, _, m90) (by first | omega | (dsimp only; omega) | (simp; omega)) ⟨by omega, by rw [hky, List.flatMap_append, List.length_append]; simpa using o90⟩ ?_ ?_ ?_)
        · exact (by repeat (first | exact trivial | refine ⟨rfl, ?_⟩))
        · exact (by repeat (first | exact trivial | refine ⟨rfl, ?_⟩))
        · repeat (first | exact Sub.nil | refine Sub.pick ?_ | refine Sub.castO rfl ?_ | refine Sub.skip ?_)
       ·
        have hni : prOf l[i] ∈ M := Classical.byContradiction fun h => absurd (hciff.2 h) (by simpa using c85)
        have hky := keepA_no hi hni
        refine f_skip ?_
        refine f_bn ?_
        refine f_tn (kh27 _ _ ?_)
        clear kh27
        refine f_region ?_
        refine f_stepP rfl rfl rfl (o_add rfl rfl _ (wrap_i64 (by omega))) ?_
        refine f_stepP rfl rfl rfl (o_move rfl) ?_
        refine f_done ?_
        refine f_tn (f_again (i + 1, _, ma) (by first | omega | (dsimp only; omega) | (simp; omega)) ⟨by omega, by rw [hky]; exact hO⟩ ?_ ?_ ?_)
        · exact (by repeat (first | exact trivial | refine ⟨rfl, ?_⟩))
        · exact (by repeat (first | exact trivial | refine ⟨rfl, ?_⟩))
        · repeat (first | exact Sub.nil | refine Sub.pick ?_ | refine Sub.castO rfl ?_ | refine Sub.skip ?_)
      ·
       obtain rfl : i = l.length := by omega
       rw [List.take_length] at hO ⊢
       refine f_exit ?_
       refine f_te ?_
       clear kh26
       refine f_te ?_
       refine f_be ?_
       refine f_tn (kh23 _ _ ?_)
       clear kh23
       refine f_seq fun K30 kh30 => ?_
       refine f_region ?_
       refine f_stepP rfl rfl rfl (o_loadA (vs := [_, _]) Try.isAgg24 Try.sizeOf24 rfl rfl ⟨(rdA rfl), (rdA rfl), trivial⟩) ?_
       refine f_step rfl rfl rfl (o_call Try.call26 rfl (fun w_ hp_ => PartsN_spec (n : Int) A11 (keepA M l) c11 w_ (seen_ro (hO.seen hp_)) (by have := keepA_len M l; omega) hN (keepA_ok M hok)) ?_)
       rintro _ _ ⟨P, AP, cP, mP, rfl, rfl, hoP, hP0, _⟩
       rw [keepA_good hg M]
       dsimp only [List.cons_append, List.nil_append]
       refine f_stepP rfl rfl rfl (o_extract rfl rfl) ?_
       refine f_stepP rfl rfl rfl (o_extract rfl rfl) ?_
       refine f_stepP rfl rfl rfl (o_assign rfl) ?_
       refine f_stepP rfl rfl rfl (o_assign rfl) ?_
       refine f_done ?_
       refine f_tn (kh30 _ _ ?_)
       clear kh30
       refine f_ret ?_
       exact f_fin2 [mP] Try.results15 rfl rfl (by repeat (first | exact Sub.nil | refine Sub.pick ?_ | refine Sub.castO rfl ?_ | refine Sub.skip ?_)) ⟨P, AP, cP, mP, by rw [hfz], rfl, hoP, fun _ => hP0 (keepA_good hg M), fun h => absurd hfz h⟩

end Go.Proofs.Ytbjiejhdgkpjcaa

/- Networks turned about, capacities raised, sums over cuts. Plain laws. -/

namespace Go.Proofs.Ytbjiejhdgkpjcaa
open Go Fly
set_option linter.unusedVariables false
set_option linter.unusedSimpArgs false

variable {n : Nat} {e : List Arc} {s t : Nat} {f g : List Int} {V W : Int} {A B : Nat → Bool}
/-- None is greater than one with a side. -/
theorem Flow.le_max (hf : Flow n e s t f V) (hg : Flow n e s t g W) (hB : Side n e s t g B) (he : NetOk n e) (hs : s < n) : V ≤ W := by
  have h1 := hf.le_cut he hs hB.src hB.dst
  have h2 := (hg.shut he hs hB.src hB.dst).2 hB.shut
  omega
def turnA (x : Arc) : Arc := ⟨x.dst, x.src, x.wt⟩
theorem turn_turn (e : List Arc) : (e.map turnA).map turnA = e := by
  rw [List.map_map]; conv => rhs; rw [← List.map_id e]
  rfl
theorem net_turn : ∀ (e : List Arc) (f : List Int) (v : Nat), net (e.map turnA) f v = - net e f v
  | [], _, _ => by simp [net]
  | x :: e, [], _ => by simp [net]
  | x :: e, y :: f, v => by
    have := net_turn e f v
    simp only [List.map_cons, net, turnA] at this ⊢
    omega
theorem arcAt_map {i : Nat} (h : i < e.length) : arcAt (e.map turnA) i = turnA (arcAt e i) := by rw [arcAt_eq h, arcAt_eq (by simpa using h), List.getElem_map]
theorem Flow.turn (h : Flow n e s t f V) : Flow n (e.map turnA) t s f V :=
  ⟨⟨by simpa using h.fits.len, fun i hi => by
    have hi' : i < e.length := by simpa using hi
    rw [arcAt_map hi']; exact h.fits.rng i hi'⟩, fun v hv => by rw [net_turn, h.cons v hv]; omega⟩
theorem NetOk.turn (h : NetOk n e) : NetOk n (e.map turnA) := fun x hx => by
  obtain ⟨y, hy, rfl⟩ := List.mem_map.1 hx
  exact ⟨(h y hy).2, (h y hy).1⟩
theorem turn_same (he : NetOk n e) (hs : s < n) (ht : t < n) (hf : Flow n e s t f V) (hA : Side n e s t f A) (hg : Flow n (e.map turnA) t s g W) (hB : Side n (e.map turnA) t s g B) : V = W := by
  have h1 := hf.turn.le_max hg hB he.turn ht
  have h2 : Flow n e s t g W := by have := hg.turn; rwa [turn_turn] at this
  have h3 := h2.le_max hf hA he hs
  omega
/-- An edge's capacity is raised. -/
def raise (e : List Arc) (i : Nat) (d : Int) : List Arc := e.set i ⟨(arcAt e i).src, (arcAt e i).dst, (arcAt e i).wt + d⟩
theorem raise_len (e : List Arc) (i : Nat) (d : Int) : (raise e i d).length = e.length := by simp [raise]
theorem raise_at {i : Nat} {d : Int} (hi : i < e.length) (j : Nat) : arcAt (raise e i d) j = if i = j then ⟨(arcAt e i).src, (arcAt e i).dst, (arcAt e i).wt + d⟩ else arcAt e j := by
  unfold raise
  conv => lhs; unfold arcAt
  rw [List.getD_eq_getElem?_getD, List.getElem?_set]
  by_cases h : i = j
  · rw [if_pos h, if_pos hi, if_pos h]; rfl
  · rw [if_neg h, if_neg h, ← List.getD_eq_getElem?_getD]; rfl
theorem net_raise : ∀ {e : List Arc} {i : Nat} (d : Int) (f : List Int) (v : Nat), i < e.length → net (raise e i d) f v = net e f v
  | [], _, _, _, _, h => by simp at h
  | x :: e, 0, d, [], v, _ => by simp [raise, net]
  | x :: e, 0, d, y :: f, v, _ => by simp [raise, net, arcAt]
  | x :: e, i + 1, d, [], v, _ => by simp [raise, net]
  | x :: e, i + 1, d, y :: f, v, h => by
    have := net_raise (e := e) (i := i) d f v (by simpa using h)
    unfold raise at this ⊢
    have ea : arcAt (x :: e) (i + 1) = arcAt e i := by simp [arcAt]
    rw [ea]
    simp only [List.set_cons_succ, net, this]
theorem capA_raise : ∀ {e : List Arc} {i : Nat} (d : Int), i < e.length → 0 ≤ d → capA A e ≤ capA A (raise e i d) ∧ capA A (raise e i d) ≤ capA A e + d
  | [], _, _, h, _ => by simp at h
  | x :: e, 0, d, _, hd => by
    simp only [raise, arcAt, List.getD_cons_zero, List.set_cons_zero, capA]
    split <;> omega
  | x :: e, i + 1, d, h, hd => by
    have := capA_raise (e := e) (i := i) d (by simpa using h) hd
    unfold raise at this ⊢
    have ea : arcAt (x :: e) (i + 1) = arcAt e i := by simp [arcAt]
    rw [ea]
    simp only [List.set_cons_succ, capA]
    omega
theorem Flow.raise {i : Nat} {d : Int} (h : Flow n e s t f V) (hi : i < e.length) (hd : 0 ≤ d) : Flow n (raise e i d) s t f V :=
  ⟨⟨by rw [raise_len]; exact h.fits.len, fun j hj => by
    rw [raise_len] at hj
    have := h.fits.rng j hj
    rw [raise_at hi]
    split
    · rename_i e'; subst e'; simp only; omega
    · exact this⟩, fun v hv => by rw [net_raise d f v hi]; exact h.cons v hv⟩
theorem NetOk.raise {i : Nat} {d : Int} (h : NetOk n e) (hi : i < e.length) : NetOk n (raise e i d) := fun x hx => by
  obtain ⟨j, hj, rfl⟩ := List.mem_iff_getElem.1 hx
  have hj' : j < e.length := by rwa [raise_len] at hj
  rw [← arcAt_eq hj, raise_at hi]
  split
  · have := h _ (List.getElem_mem hi); rw [arcAt_eq hi]; exact this
  · rw [arcAt_eq hj']; exact h _ (List.getElem_mem hj')
theorem raise_more {i : Nat} {d : Int} (he : NetOk n e) (hs : s < n) (hi : i < e.length) (hd : 0 ≤ d) (hf : Flow n e s t f V) (hA : Side n e s t f A) (hg : Flow n (raise e i d) s t g W) (hB : Side n (raise e i d) s t g B) : V ≤ W ∧ W ≤ V + d := by
  refine ⟨(hf.raise hi hd).le_max hg hB (he.raise hi) hs, ?_⟩
  have h1 := hg.le_cut (he.raise hi) hs hA.src hA.dst
  have h2 := (hf.shut he hs hA.src hA.dst).2 hA.shut
  have h3 := capA_raise (A := A) (e := e) d hi hd
  omega
theorem capA_append (A : Nat → Bool) : ∀ (e e' : List Arc), capA A (e ++ e') = capA A e + capA A e'
  | [], e' => by simp [capA]
  | x :: e, e' => by simp only [List.cons_append, capA, capA_append A e e']; omega
theorem capA_next {i : Nat} (hi : i < e.length) : capA A (e.take (i + 1)) = capA A (e.take i) + (if A e[i].src.toNat && !A e[i].dst.toNat then e[i].wt else 0) := by
  rw [List.take_succ_eq_append_getElem hi, capA_append]; simp [capA]
theorem capA_bound {c : Int} : ∀ (e : List Arc), (∀ x ∈ e, 0 ≤ x.wt ∧ x.wt ≤ c) → 0 ≤ capA A e ∧ capA A e ≤ e.length * c
  | [], _ => by simp [capA]
  | x :: e, h => by
    have := capA_bound e fun y hy => h y (List.mem_cons_of_mem _ hy)
    have := h x (List.mem_cons_self ..)
    simp only [capA, List.length_cons]
    rw [show ((e.length + 1 : Nat) : Int) * c = e.length * c + c by rw [Int.natCast_add, Int.add_mul]; simp]
    split <;> omega
theorem capA_take {c : Int} (h : ∀ x ∈ e, 0 ≤ x.wt ∧ x.wt ≤ c) (i : Nat) (hc : c ≤ 4294967295) (hl : e.length ≤ 16384) : 0 ≤ capA A (e.take i) ∧ capA A (e.take i) ≤ 70368744161280 := by
  have h1 := capA_bound (A := A) (c := c) (e.take i) fun x hx => h x (List.mem_of_mem_take hx)
  have h2 : (e.take i).length ≤ 16384 := by simp; omega
  refine ⟨h1.1, ?_⟩
  by_cases h0 : c ≤ 0
  · have : ((e.take i).length : Int) * c ≤ 0 := Int.mul_nonpos_of_nonneg_of_nonpos (by omega) h0
    omega
  · have h3 : ((e.take i).length : Int) * c ≤ 16384 * 4294967295 := Int.mul_le_mul (by omega) hc (by omega) (by omega)
    omega
theorem capA_congr : ∀ {e : List Arc}, (∀ x ∈ e, A x.src.toNat = B x.src.toNat ∧ A x.dst.toNat = B x.dst.toNat) → capA A e = capA B e
  | [], _ => rfl
  | x :: e, h => by
    have h0 := h x (List.mem_cons_self ..)
    simp only [capA, h0.1, h0.2, capA_congr fun y hy => h y (List.mem_cons_of_mem _ hy)]
end Go.Proofs.Ytbjiejhdgkpjcaa

/- What a natural cut parts, and that no pair of it is too many; marks among all pairs. Plain laws. -/

namespace Go.Proofs.Ytbjiejhdgkpjcaa
open Go Fly
set_option linter.unusedVariables false
set_option linter.unusedSimpArgs false
set_option linter.unusedSectionVars false

/-- The capacity of a side: how many pairs are between it and the others. -/
theorem capA_cutE (A : Nat → Bool) (L : List Int) : ∀ ps : List Pr, capA A (cutE ps L) = ((ps.filter fun p => decide (A (nd L p.1).toNat ≠ A (nd L p.2).toNat)).length : Int)
  | [] => rfl
  | p :: ps => by
    have e : cutE (p :: ps) L = (if nd L p.1 ≠ nd L p.2 then [⟨nd L p.1, nd L p.2, 1⟩, ⟨nd L p.2, nd L p.1, 1⟩] else []) ++ cutE ps L := by unfold cutE; rw [List.flatMap_cons]
    rw [e, capA_append, capA_cutE A L ps]
    by_cases hne : nd L p.1 = nd L p.2
    · rw [if_neg (by simpa using hne), List.filter_cons, hne]; simp [capA]
    · rw [if_pos hne, List.filter_cons]
      cases h1 : A (nd L p.1).toNat <;> cases h2 : A (nd L p.2).toNat <;> simp [capA, h1, h2] <;> omega
theorem nd_set {L : List Int} {v x : Int} (hv : v.toNat < L.length) (h0 : 0 ≤ v) (u : Int) (hu : 0 ≤ u) : nd (L.set v.toNat x) u = if v = u then x else nd L u := by
  unfold nd
  simp only [List.getD_eq_getElem?_getD]
  by_cases e : v = u
  · subst e; rw [List.getElem?_set_self hv, if_pos rfl]; rfl
  · rw [List.getElem?_set_ne (by omega), if_neg e]
theorem nd_inj {α : Type} {l : List α} (h : l.Nodup) {i j : Nat} (hi : i < l.length) (hj : j < l.length) (e : l[i] = l[j]) : i = j := by
  rcases Nat.lt_trichotomy i j with h1 | h1 | h1
  · exact absurd e (List.pairwise_iff_getElem.1 h i j hi hj h1)
  · exact h1
  · exact absurd e.symm (List.pairwise_iff_getElem.1 h j i hj hi h1)
theorem ndTo_nd {reg : List Int} {c n : Nat} (hr : ∀ x ∈ reg, 0 ≤ x ∧ x < (n : Int)) (hnd : reg.Nodup) : ∀ k, k ≤ reg.length → ∀ v : Int, 0 ≤ v → v < (n : Int) →
    (∀ i (hi : i < reg.length), i < k → reg[i] = v → nd (ndTo reg c n k) v = if i < c then 0 else 2 + (i : Int) - (c : Int)) ∧ (v ∉ reg.take k → nd (ndTo reg c n k) v = 1)
  | 0, _, v, h0, h1 => ⟨fun i hi h => by omega, fun _ => by unfold ndTo nd; rw [List.getD_eq_getElem?_getD, List.getElem?_replicate, if_pos (by omega)]; rfl⟩
  | k + 1, hk, v, h0, h1 => by
    have hk' : k < reg.length := hk
    have ih := ndTo_nd (c := c) hr hnd k (by omega) v h0 h1
    have hg : reg.getD k 0 = reg[k] := by simp [List.getD_eq_getElem?_getD, hk']
    have hrk := hr _ (List.getElem_mem hk')
    rw [ndTo_succ, hg, nd_set (by rw [ndTo_len]; omega) hrk.1 v h0]
    refine ⟨fun i hi hik e => ?_, fun hn => ?_⟩
    · by_cases ei : i = k
      · subst ei; rw [if_pos e]
      · have : reg[k] ≠ v := fun e2 => ei (nd_inj hnd hi hk' (e.trans e2.symm))
        rw [if_neg this]; exact ih.1 i hi (by omega) e
    · rw [List.take_succ_eq_append_getElem hk'] at hn
      rw [if_neg (fun e => hn (by simp [e])), ih.2 (fun h => hn (List.mem_append_left _ h))]
/-- A list of n vertices, no one twice, has them all. -/
theorem all_in {n : Nat} {L : List Int} (hr : ∀ x ∈ L, 0 ≤ x ∧ x < (n : Int)) (hn : L.Nodup) (hl : L.length = n) {v : Int} (h0 : 0 ≤ v) (h1 : v < (n : Int)) : v ∈ L :=
  Classical.byContradiction fun h => by
    have := ints_card (n := n) (l := v :: L) (fun x hx => by rcases List.mem_cons.1 hx with rfl | hx; exact ⟨h0, h1⟩; exact hr x hx) (List.nodup_cons.2 ⟨h, hn⟩)
    simp at this; omega

section
variable {n : Nat} {l : List Arc} {c most : Int}
theorem reg_facts (h : (regR (n : Int) l c most).2 = 0) : (gcheck (n : Int) l).2 = 0 ∧ (∀ x ∈ (regR (n : Int) l c most).1, 0 ≤ x ∧ x < (n : Int)) ∧ (regR (n : Int) l c most).1.Nodup ∧ 0 < (regR (n : Int) l c most).1.length := by
  obtain ⟨hg, n', cn, mn, en, rfl, rfl, hok⟩ := reg_ok h
  obtain rfl : n = n' := by omega
  exact ⟨hg, hok.rng, hok.nd, (reg_head hg hok).1⟩
theorem core_len : (coreR (n : Int) l c most).1.length = ((regR (n : Int) l c most).1.length + 3) / 4 ∨ (coreR (n : Int) l c most).1.length = (regR (n : Int) l c most).1.length := by
  unfold coreR; simp only [List.length_take]; omega
theorem core_le : (coreR (n : Int) l c most).1.length ≤ (regR (n : Int) l c most).1.length := by
  unfold coreR; simp only [List.length_take]; omega
theorem core_pos (h : 0 < (regR (n : Int) l c most).1.length) : 0 < (coreR (n : Int) l c most).1.length := by
  unfold coreR; simp only [List.length_take]; omega
theorem core_pre : (coreR (n : Int) l c most).1 = (regR (n : Int) l c most).1.take (coreR (n : Int) l c most).1.length := by
  unfold coreR; simp only [List.length_take]
  rw [List.take_eq_take_iff]; omega
theorem core_mem {i : Nat} (hnd : (regR (n : Int) l c most).1.Nodup) (hi : i < (regR (n : Int) l c most).1.length) : (regR (n : Int) l c most).1[i] ∈ (coreR (n : Int) l c most).1 ↔ i < (coreR (n : Int) l c most).1.length := by
  constructor
  · intro h
    rw [core_pre] at h
    obtain ⟨j, hj, e⟩ := List.mem_iff_getElem.1 h
    rw [List.getElem_take] at e
    rw [List.length_take] at hj
    have := nd_inj hnd (by omega) hi e
    omega
  · intro h
    rw [core_pre]
    exact List.mem_iff_getElem.2 ⟨i, by rw [List.length_take]; omega, List.getElem_take⟩
theorem core_reg {v : Int} (h : v ∈ (coreR (n : Int) l c most).1) : v ∈ (regR (n : Int) l c most).1 := by
  rw [core_pre] at h; exact List.mem_of_mem_take h
/-- What a vertex's node tells. -/
theorem node_kinds (h : (regR (n : Int) l c most).2 = 0) {v : Int} (h0 : 0 ≤ v) (h1 : v < (n : Int)) :
    (v ∈ (coreR (n : Int) l c most).1 ∧ nd (nodeL n l c most) v = 0) ∨ (v ∉ (regR (n : Int) l c most).1 ∧ nd (nodeL n l c most) v = 1) ∨
      (∃ (i : Nat) (hi : i < (regR (n : Int) l c most).1.length), (regR (n : Int) l c most).1[i] = v ∧ v ∉ (coreR (n : Int) l c most).1 ∧ (coreR (n : Int) l c most).1.length ≤ i ∧ nd (nodeL n l c most) v = 2 + (i : Int) - ((coreR (n : Int) l c most).1.length : Int)) := by
  obtain ⟨hg, hr, hnd, hp⟩ := reg_facts h
  have K := ndTo_nd (c := (coreR (n : Int) l c most).1.length) hr hnd _ (Nat.le_refl _) v h0 h1
  rw [List.take_length] at K
  by_cases hm : v ∈ (regR (n : Int) l c most).1
  · obtain ⟨i, hi, e⟩ := List.mem_iff_getElem.1 hm
    have := K.1 i hi hi e
    have hc := core_mem hnd hi
    rw [e] at hc
    by_cases hic : i < (coreR (n : Int) l c most).1.length
    · rw [if_pos hic] at this
      exact .inl ⟨hc.2 hic, this⟩
    · rw [if_neg hic] at this
      exact .inr (.inr ⟨i, hi, e, fun h => hic (hc.1 h), by omega, this⟩)
  · exact .inr (.inl ⟨hm, K.2 hm⟩)
theorem node_inj (h : (regR (n : Int) l c most).2 = 0) {u v : Int} (hu0 : 0 ≤ u) (hu1 : u < (n : Int)) (hv0 : 0 ≤ v) (hv1 : v < (n : Int)) (h2 : 2 ≤ nd (nodeL n l c most) v) (e : nd (nodeL n l c most) u = nd (nodeL n l c most) v) : u = v := by
  rcases node_kinds h hu0 hu1 with ⟨_, a⟩ | ⟨_, a⟩ | ⟨i, hi, ei, _, hci, a⟩
  · omega
  · omega
  · rcases node_kinds h hv0 hv1 with ⟨_, b⟩ | ⟨_, b⟩ | ⟨j, hj, ej, _, hcj, b⟩
    · omega
    · omega
    · have : i = j := by omega
      subst this; rw [← ei, ← ej]
theorem node_nn (h : (regR (n : Int) l c most).2 = 0) {v : Int} (h0 : 0 ≤ v) (h1 : v < (n : Int)) : 0 ≤ nd (nodeL n l c most) v := by
  rcases node_kinds h h0 h1 with ⟨_, a⟩ | ⟨_, a⟩ | ⟨i, hi, ei, _, hci, a⟩ <;> omega
theorem nc_net {n : Nat} {l : List Arc} {c most : Int} (h0 : ncE (n : Int) l c most = 0) (e : (regR (n : Int) l c most).1.length ≠ n) : NetOk (nodeN n l c most).toNat (cutE (prs n l) (nodeL n l c most)) ∧ 0 < (nodeN n l c most).toNat := by
  have hf := nc_looked h0 e
  obtain ⟨hk, _, hk1, _, hk2, _⟩ := flooked_zero hf
  obtain ⟨hz1, hz2, hz3, hz4⟩ := ncheck_zero hk
  refine ⟨fun x hx => ?_, by omega⟩
  obtain ⟨j, hj, rfl⟩ := List.mem_iff_getElem.1 hx
  have := hz4 j hj; omega
theorem nc_reg (h0 : ncE (n : Int) l c most = 0) : (regR (n : Int) l c most).2 = 0 := by
  unfold ncE at h0
  by_cases h1 : (regR (n : Int) l c most).2 = 0
  · exact h1
  · rw [if_pos h1] at h0; exact h0
theorem good_arcs (hg : (gcheck (n : Int) l).2 = 0) : ∀ a ∈ l, (0 ≤ a.src ∧ a.src < (n : Int)) ∧ 0 ≤ a.dst ∧ a.dst < (n : Int) := fun a ha => by
  obtain ⟨i, hi, rfl⟩ := List.mem_iff_getElem.1 ha
  have := (gcheck_zero hg).2.2.2 i hi; omega
/-- Which arcs lead on between vertices whose pair is not marked. -/
theorem keepA_edge (hg : (gcheck (n : Int) l).2 = 0) {M : List Pr} {p : Pr} (hp : p ∈ prs n l) (hm : p ∉ M) : Conn (ends2 (keepA M l)) p.1.toNat p.2.toNat := by
  obtain ⟨a, ha, hne, rfl⟩ := mem_prRaw.1 ((mem_prs (good_arcs hg)).1 hp)
  have hk : a ∈ keepA M l := List.mem_filter.2 ⟨ha, by simpa using hm⟩
  have hc : Conn (ends2 (keepA M l)) a.src.toNat a.dst.toNat := Conn.edge (.inl (List.mem_map.2 ⟨a, hk, rfl⟩))
  unfold prOf
  rcases Int.le_total a.src a.dst with h | h
  · simp only [Int.min_eq_left h, Int.max_eq_right h]; exact hc
  · simp only [Int.min_eq_right h, Int.max_eq_left h]; exact hc.symm
/-- What is the same at both ends of each pair that is not marked, is the same where one comes to. -/
theorem keepA_same {β : Type} (hg : (gcheck (n : Int) l).2 = 0) {M : List Pr} {f : Nat → β} (h : ∀ p ∈ prs n l, p ∉ M → f p.1.toNat = f p.2.toNat) {u v : Nat} (hc : Conn (ends2 (keepA M l)) u v) : f u = f v := by
  have key : ∀ x y : Nat, (x, y) ∈ ends2 (keepA M l) → f x = f y := by
    intro x y he
    obtain ⟨a, ha, e⟩ := List.mem_map.1 he
    obtain ⟨ha1, ha2⟩ := List.mem_filter.1 ha
    cases e
    by_cases hne : a.src = a.dst
    · rw [hne]
    · have hp : prOf a ∈ prs n l := (mem_prs (good_arcs hg)).2 (mem_prRaw.2 ⟨a, ha1, hne, rfl⟩)
      have := h _ hp (by simpa using ha2)
      unfold prOf at this
      rcases Int.le_total a.src a.dst with hle | hle
      · simp only [Int.min_eq_left hle, Int.max_eq_right hle] at this; exact this
      · simp only [Int.min_eq_right hle, Int.max_eq_left hle] at this; exact this.symm
  induction hc with
  | refl => rfl
  | step _ he ih =>
    rcases he with he | he
    · exact ih.trans (key _ _ he)
    · exact ih.trans (key _ _ he).symm
/-- A CUT PARTS. -/
theorem cut_parts {C : List Pr} (h0 : ncE (n : Int) l c most = 0) (hC : NcΦ n l c most C) {u v : Nat} (hu : u < n) (hv : v < n) (hcore : (v : Int) ∈ (coreR (n : Int) l c most).1) (hout : (u : Int) ∉ (regR (n : Int) l c most).1) : ¬ Conn (ends2 (keepA C l)) u v := by
  intro hc
  have hr0 := nc_reg h0
  obtain ⟨hg, hr, hnd, hp⟩ := reg_facts hr0
  by_cases e : (regR (n : Int) l c most).1.length = n
  · exact hout (all_in hr hnd e (by omega) (by omega))
  · obtain ⟨f, V, sd, hl, hF, hS, rfl⟩ := hC.2 e
    have := keepA_same (f := fun u : Nat => sd.getD (nd (nodeL n l c most) (u : Int)).toNat false) hg (fun p hp hm => by
      have hpr := prs_rng hp
      have h2 : cutB (nodeL n l c most) sd p = true := Classical.byContradiction fun h => hm (List.mem_filter.2 ⟨hp, by simpa using h⟩)
      unfold cutB at h2
      rw [Int.toNat_of_nonneg hpr.1.1, Int.toNat_of_nonneg hpr.2.1]; simpa using h2) hc
    have e0 : nd (nodeL n l c most) (v : Int) = 0 := by
      rcases node_kinds (v := (v : Int)) hr0 (by omega) (by omega) with ⟨_, a⟩ | ⟨a, _⟩ | ⟨_, _, _, a, _⟩
      · exact a
      · exact absurd (core_reg hcore) a
      · exact absurd hcore a
    have e1 : nd (nodeL n l c most) (u : Int) = 1 := by
      rcases node_kinds (v := (u : Int)) hr0 (by omega) (by omega) with ⟨a, _⟩ | ⟨_, a⟩ | ⟨i, hi, ei, _⟩
      · exact absurd (core_reg a) hout
      · exact a
      · exact absurd (ei ▸ List.getElem_mem hi) hout
    rw [e0, e1] at this
    have h1 := hS.src
    have h2 := hS.dst
    rw [show (0 : Int).toNat = 0 from rfl, h1, show (1 : Int).toNat = 1 from rfl, h2] at this
    cases this
/-- NO PAIR OF IT IS TOO MANY. -/
theorem cut_needs {C : List Pr} (h0 : ncE (n : Int) l c most = 0) (hC : NcΦ n l c most C) {i : Nat} (hi : i < C.length) :
    ∃ u v : Nat, u < n ∧ v < n ∧ (v : Int) ∈ (coreR (n : Int) l c most).1 ∧ (u : Int) ∉ (regR (n : Int) l c most).1 ∧ Conn (ends2 (keepA (C.take i ++ C.drop (i + 1)) l)) u v := by
  have hr0 := nc_reg h0
  obtain ⟨hg, hr, hnd, hp⟩ := reg_facts hr0
  by_cases e : (regR (n : Int) l c most).1.length = n
  · rw [hC.1 e] at hi; simp at hi
  obtain ⟨f, V, sd, hl, hF, hS, hCe⟩ := hC.2 e
  obtain ⟨hnet, hpos⟩ := nc_net h0 e
  refine Classical.byContradiction fun hno => ?_
  have hno' : ∀ u v : Nat, u < n → v < n → (v : Int) ∈ (coreR (n : Int) l c most).1 → (u : Int) ∉ (regR (n : Int) l c most).1 → ¬ Conn (ends2 (keepA (C.take i ++ C.drop (i + 1)) l)) u v := fun u v a b c_ d e_ => hno ⟨u, v, a, b, c_, d, e_⟩
  let R : Nat → Prop := fun v => ∃ x : Nat, x < n ∧ (x : Int) ∈ (coreR (n : Int) l c most).1 ∧ Conn (ends2 (keepA (C.take i ++ C.drop (i + 1)) l)) x v
  let Pk : Nat → Prop := fun k => ∃ v : Nat, v < n ∧ (nd (nodeL n l c most) (v : Int)).toNat = k ∧ R v
  have hdec : DecidablePred Pk := fun _ => Classical.propDecidable _
  have hVcap := (hF.shut hnet hpos hS.src hS.dst).2 hS.shut
  rw [capA_cutE] at hVcap
  have hCl : ((prs n l).filter fun p => decide (sd.getD (nd (nodeL n l c most) p.1).toNat false ≠ sd.getD (nd (nodeL n l c most) p.2).toNat false)).length = C.length := by
    rw [hCe]; congr 1; apply List.filter_congr; intro p _; unfold cutB; simp
  rw [hCl] at hVcap
  have hRA : ∀ v : Nat, v < n → (Pk (nd (nodeL n l c most) (v : Int)).toNat ↔ R v) := fun v hv => by
    constructor
    · rintro ⟨v', hv', en, hR'⟩
      have n1 := node_nn hr0 (v := (v : Int)) (by omega) (by omega)
      have n2 := node_nn hr0 (v := (v' : Int)) (by omega) (by omega)
      have en' : nd (nodeL n l c most) (v' : Int) = nd (nodeL n l c most) (v : Int) := by omega
      rcases node_kinds (v := (v : Int)) hr0 (by omega) (by omega) with ⟨a, _⟩ | ⟨a, b⟩ | ⟨j, hj, ej, _, hcj, b⟩
      · exact ⟨v, hv, a, .refl _⟩
      · have hout : (v' : Int) ∉ (regR (n : Int) l c most).1 := by
          rcases node_kinds (v := (v' : Int)) hr0 (by omega) (by omega) with ⟨_, b'⟩ | ⟨a', _⟩ | ⟨j, hj, ej, _, hcj, b'⟩
          · omega
          · exact a'
          · omega
        obtain ⟨x, hx, hxc, hxv⟩ := hR'
        exact absurd hxv.symm (hno' v' x hv' hx hxc hout)
      · have := node_inj hr0 (u := (v' : Int)) (v := (v : Int)) (by omega) (by omega) (by omega) (by omega) (by omega) en'
        obtain rfl : v' = v := by omega
        exact hR'
    · exact fun h => ⟨v, hv, rfl, h⟩
  obtain ⟨x0, hx0⟩ : ∃ x, x ∈ (coreR (n : Int) l c most).1 := ⟨_, List.getElem_mem (core_pos hp)⟩
  have hx0r := hr _ (core_reg hx0)
  have hx0n : ((x0.toNat : Nat) : Int) = x0 := Int.toNat_of_nonneg hx0r.1
  have hA0 : Pk 0 := by
    refine ⟨x0.toNat, by omega, ?_, x0.toNat, by omega, by rw [hx0n]; exact hx0, .refl _⟩
    rw [hx0n]
    rcases node_kinds (v := x0) hr0 (by omega) (by omega) with ⟨_, a⟩ | ⟨a, _⟩ | ⟨_, _, _, a, _⟩
    · rw [a]; rfl
    · exact absurd (core_reg hx0) a
    · exact absurd hx0 a
  have hA1 : ¬ Pk 1 := by
    rintro ⟨v, hv, en, x, hx, hxc, hxv⟩
    have hout : (v : Int) ∉ (regR (n : Int) l c most).1 := by
      rcases node_kinds (v := (v : Int)) hr0 (by omega) (by omega) with ⟨_, b'⟩ | ⟨a', _⟩ | ⟨j, hj, ej, _, hcj, b'⟩
      · omega
      · exact a'
      · omega
    exact hno' v x hv hx hxc hout hxv.symm
  have hle := hF.le_cut hnet (A := fun k => decide (Pk k)) hpos (by simpa using hA0) (by simpa using hA1)
  rw [capA_cutE] at hle
  have hsub := List.Nodup.length_le_of_subset (l₁ := (prs n l).filter fun p => decide (decide (Pk (nd (nodeL n l c most) p.1).toNat) ≠ decide (Pk (nd (nodeL n l c most) p.2).toNat))) (l₂ := C.take i ++ C.drop (i + 1)) ((nodup_X (prs_sorted n l)).filter _) (fun p hpm => by
    obtain ⟨hp1, hp2⟩ := List.mem_filter.1 hpm
    have hpr := prs_rng hp1
    refine Classical.byContradiction fun hnm => ?_
    have hce := keepA_edge hg hp1 hnm
    have a1 := hRA p.1.toNat (by omega)
    have a2 := hRA p.2.toNat (by omega)
    rw [Int.toNat_of_nonneg hpr.1.1] at a1
    rw [Int.toNat_of_nonneg hpr.2.1] at a2
    have a3 : R p.1.toNat ↔ R p.2.toNat := ⟨fun ⟨x, h1, h2, h3⟩ => ⟨x, h1, h2, h3.trans hce⟩, fun ⟨x, h1, h2, h3⟩ => ⟨x, h1, h2, h3.trans hce.symm⟩⟩
    have a4 : Pk (nd (nodeL n l c most) p.1).toNat ↔ Pk (nd (nodeL n l c most) p.2).toNat := a1.trans (a3.trans a2.symm)
    simp [a4] at hp2)
  rw [List.length_append, List.length_take, List.length_drop] at hsub
  omega
end

/-! ### right marks -/
theorem prs_up {n : Nat} {l : List Arc} {p : Pr} (h : p ∈ prs n l) : p.1 < p.2 := by
  unfold prs at h
  obtain ⟨_, h2⟩ := List.mem_filter.1 h
  obtain ⟨a, ha, hb⟩ := List.any_eq_true.1 h2
  simp only [Bool.and_eq_true, decide_eq_true_eq] at hb
  obtain ⟨h3, rfl⟩ := hb
  unfold prOf; simp only; omega
theorem fE_zero {N : Int} : ∀ {M : List Pr}, (∀ p ∈ M, (0 ≤ p.1 ∧ p.1 < N) ∧ (0 ≤ p.2 ∧ p.2 < N) ∧ p.1 < p.2) → fE N M = 0
  | [], _ => rfl
  | p :: r, h => by
    have h1 := h p (by simp)
    unfold fE
    rw [if_neg (by omega), if_neg (by omega)]
    exact fE_zero fun q hq => h q (by simp [hq])
theorem frag_zero {n : Nat} {l : List Arc} (hg : (gcheck (n : Int) l).2 = 0) {M : List Pr} (hM : ∀ p ∈ M, p ∈ prs n l) (hl : M.length ≤ 16384) : fragE (n : Int) l M = 0 := by
  unfold fragE
  rw [if_neg (by rw [hg]; simp), if_neg (by omega)]
  exact fE_zero fun p hp => by
    have h1 := prs_rng (hM p hp)
    have h2 := prs_up (hM p hp)
    omega
theorem prs_len8 {n : Nat} {l : List Arc} (hg : (gcheck (n : Int) l).2 = 0) : (prs n l).length ≤ 8192 := by
  have := prs_few (good_arcs hg)
  have := (gcheck_zero hg).2.2.1
  omega
/-- Some of all pairs, found in order. -/
theorem mark_at {L M : List Pr} {q : Pr → Bool} (hM : M = L.filter q) {k : Nat} (hk : k < L.length) : ((L.take k).filter q).length ≤ M.length ∧ (q L[k] = true ↔ M[((L.take k).filter q).length]? = some L[k]) := by
  have e : M = (L.take k).filter q ++ (L.drop k).filter q := by rw [hM, ← List.filter_append, List.take_append_drop]
  refine ⟨by rw [e]; simp, ?_⟩
  rw [e, List.getElem?_append_right (Nat.le_refl _), Nat.sub_self]
  constructor
  · intro h
    rw [List.drop_eq_getElem_cons hk, List.filter_cons, if_pos h]; rfl
  · intro h
    have := List.mem_of_getElem? h
    exact (List.mem_filter.1 this).2
theorem filt_len_yes {α : Type} {q : α → Bool} {l : List α} {i : Nat} (hi : i < l.length) (h : q l[i] = true) : ((l.take (i + 1)).filter q).length = ((l.take i).filter q).length + 1 := by
  rw [filt_len_next hi, if_pos h]
theorem filt_len_no {α : Type} {q : α → Bool} {l : List α} {i : Nat} (hi : i < l.length) (h : q l[i] = false) : ((l.take (i + 1)).filter q).length = ((l.take i).filter q).length := by
  rw [filt_len_next hi, h]; rfl
theorem marks_filter {n : Nat} {l : List Arc} {M : List Pr} (hs : M.Pairwise ltX) (hM : ∀ p ∈ M, p ∈ prs n l) : M = (prs n l).filter fun p => decide (p ∈ M) := by
  refine rising_eq (R := ltX) (fun a b c h1 h2 => by unfold ltX at *; omega) (fun a b h e => by subst e; unfold ltX at h; omega) hs ((prs_sorted n l).filter _) fun a => ?_
  rw [List.mem_filter, decide_eq_true_eq]
  exact ⟨fun h => ⟨hM a h, h⟩, fun h => h.2⟩
theorem out_sub {n : Nat} {l : List Arc} {most : Int} {cs : List Int} {M : List Pr} (h : OutI n l most cs M) : ∀ p ∈ M, p ∈ prs n l := fun p hp => by
  obtain ⟨v, _, C, hC, hpC⟩ := (h p).1 hp
  exact (nc_sub hC).1 p hpC
theorem out_same {n : Nat} {l : List Arc} {most : Int} {cs cs' : List Int} {M M' : List Pr} (hs : M.Pairwise ltX) (hs' : M'.Pairwise ltX) (h : OutI n l most cs M) (h' : OutI n l most cs' M') (hc : ∀ v, v ∈ cs ↔ v ∈ cs') : M = M' := by
  refine rising_eq (R := ltX) (fun a b c h1 h2 => by unfold ltX at *; omega) (fun a b h e => by subst e; unfold ltX at h; omega) hs hs' fun p => ?_
  rw [h p, h' p]
  exact ⟨fun ⟨v, hv, r⟩ => ⟨v, (hc v).1 hv, r⟩, fun ⟨v, hv, r⟩ => ⟨v, (hc v).2 hv, r⟩⟩
theorem mk_good {N : Int} {l : List Arc} {cs : List Int} {most : Int} (h : mkE N l cs most = 0) : (gcheck N l).2 = 0 := by
  unfold mkE at h
  by_cases h1 : (gcheck N l).2 = 0
  · exact h1
  · rw [if_pos h1] at h; exact h
theorem mk_parts {N : Int} {l : List Arc} {cs : List Int} {most : Int} (h : mkE N l cs most = 0) : (1 ≤ most ∧ most ≤ 1024) ∧ ∀ v ∈ cs, 0 ≤ v ∧ v < N := by
  have hg := mk_good h
  unfold mkE at h
  rw [if_neg (by rw [hg]; simp)] at h
  by_cases h1 : 16384 < cs.length
  · rw [if_pos h1] at h; cases h
  · rw [if_neg h1] at h
    by_cases h2 : most < 1 ∨ 1024 < most
    · rw [if_pos h2] at h; cases h
    · rw [if_neg h2] at h
      by_cases h3 : cs.any (offV N) = true
      · rw [if_pos h3] at h; cases h
      · refine ⟨by omega, fun v hv => ?_⟩
        have h4 := List.any_eq_false.1 (by simpa using h3) v hv
        unfold offV at h4
        simp at h4; omega
end Go.Proofs.Ytbjiejhdgkpjcaa

/- All pairs, vertex by vertex. -/

namespace Go.Proofs.Ytbjiejhdgkpjcaa
open Go Fly
set_option linter.unusedVariables false
set_option linter.unusedSimpArgs false
set_option linter.unusedSectionVars false

/-- The pairs of a vertex with greater ones. -/
def rowP (l : List Arc) (v : Nat) (j : Nat) : List Pr := (((nbrs (v : Int) l).take j).filter fun u => decide ((v : Int) < u)).map fun u => ((v : Int), u)
def rowF (l : List Arc) (v : Nat) : List Pr := rowP l v (nbrs (v : Int) l).length
def allR (l : List Arc) : Nat → List Pr
  | 0 => []
  | v + 1 => allR l v ++ rowF l v
theorem rowP_zero (l : List Arc) (v : Nat) : rowP l v 0 = [] := by simp [rowP]
theorem rowP_next {l : List Arc} {v j : Nat} (h : j < (nbrs (v : Int) l).length) : rowP l v (j + 1) = rowP l v j ++ (if (v : Int) < (nbrs (v : Int) l)[j] then [((v : Int), (nbrs (v : Int) l)[j])] else []) := by
  unfold rowP
  rw [List.take_succ_eq_append_getElem h, List.filter_append, List.map_append]
  congr 1
  by_cases hc : (v : Int) < (nbrs (v : Int) l)[j] <;> simp [hc]
theorem rowP_len (l : List Arc) (v j : Nat) : (rowP l v j).length ≤ j := by
  unfold rowP
  rw [List.length_map]
  exact Nat.le_trans (List.length_filter_le _ _) (by rw [List.length_take]; omega)
theorem rowF_mem {l : List Arc} {v : Nat} {p : Pr} : p ∈ rowF l v ↔ p.1 = (v : Int) ∧ p.2 ∈ nbrs (v : Int) l ∧ (v : Int) < p.2 := by
  unfold rowF rowP
  rw [List.take_length]
  simp only [List.mem_map, List.mem_filter, decide_eq_true_eq]
  constructor
  · rintro ⟨u, ⟨h1, h2⟩, rfl⟩; exact ⟨rfl, h1, h2⟩
  · rintro ⟨h1, h2, h3⟩; exact ⟨p.2, ⟨h2, h3⟩, Prod.ext h1.symm rfl⟩
theorem allR_mem {l : List Arc} {p : Pr} : ∀ {v : Nat}, p ∈ allR l v ↔ ∃ u : Nat, u < v ∧ p ∈ rowF l u
  | 0 => by simp [allR]
  | v + 1 => by
    unfold allR
    rw [List.mem_append, allR_mem]
    constructor
    · rintro (⟨u, h1, h2⟩ | h)
      · exact ⟨u, by omega, h2⟩
      · exact ⟨v, by omega, h⟩
    · rintro ⟨u, h1, h2⟩
      by_cases e : u = v
      · subst e; exact .inr h2
      · exact .inl ⟨u, by omega, h2⟩
theorem allR_sorted (l : List Arc) : ∀ v, (allR l v).Pairwise ltX
  | 0 => by simp [allR]
  | v + 1 => by
    unfold allR
    rw [List.pairwise_append]
    refine ⟨allR_sorted l v, ?_, fun a ha b hb => ?_⟩
    · unfold rowF rowP
      rw [List.take_length, List.pairwise_map]
      exact ((nbrs_rising (v : Int) l).filter _).imp fun {a b} h => .inr ⟨rfl, h⟩
    · obtain ⟨u, hu, hau⟩ := allR_mem.1 ha
      have h1 := (rowF_mem.1 hau).1
      have h2 := (rowF_mem.1 hb).1
      exact .inl (by omega)
theorem allR_is {n : Nat} {l : List Arc} (hg : (gcheck (n : Int) l).2 = 0) : allR l n = prs n l := by
  refine rising_eq (R := ltX) (fun a b c h1 h2 => by unfold ltX at *; omega) (fun a b h e => by subst e; unfold ltX at h; omega) (allR_sorted l n) (prs_sorted n l) fun p => ?_
  have hgd := good_arcs hg
  rw [allR_mem, mem_prs hgd, mem_prRaw]
  constructor
  · rintro ⟨u, hu, hp⟩
    obtain ⟨h1, h2, h3⟩ := rowF_mem.1 hp
    obtain ⟨x, hx, hux⟩ := nbrs_mem.1 h2
    have hge := hgd x hx
    refine ⟨x, hx, ?_, ?_⟩
    · rcases nbr_ends hux with ⟨a, b⟩ | ⟨a, b⟩ <;> omega
    · unfold prOf
      rcases nbr_ends hux with ⟨a, b⟩ | ⟨a, b⟩ <;> exact Prod.ext (by simp only; omega) (by simp only; omega)
  · rintro ⟨a, ha, hne, rfl⟩
    have hge := hgd a ha
    have hm : a.dst ∈ nbrs a.src l ∧ a.src ∈ nbrs a.dst l := by
      have : a.dst ∈ nbrs a.src l := nbrs_mem.2 ⟨a, ha, by unfold nbr; rw [if_neg hne]; simp⟩
      exact ⟨this, nbrs_symm.1 this⟩
    unfold prOf
    rcases Int.lt_or_le a.src a.dst with h | h
    · refine ⟨a.src.toNat, by omega, rowF_mem.2 ⟨by simp only; omega, ?_, by simp only; omega⟩⟩
      simp only
      rw [Int.toNat_of_nonneg hge.1.1, Int.max_eq_right (by omega)]; exact hm.1
    · refine ⟨a.dst.toNat, by omega, rowF_mem.2 ⟨by simp only; omega, ?_, by simp only; omega⟩⟩
      simp only
      rw [Int.toNat_of_nonneg hge.2.1, Int.max_eq_left (by omega)]; exact hm.2
theorem allR_le {n : Nat} {l : List Arc} (hg : (gcheck (n : Int) l).2 = 0) {v : Nat} (hv : v ≤ n) : (allR l v).length ≤ 8192 := by
  refine Nat.le_trans (List.Nodup.length_le_of_subset (nodup_X (allR_sorted l v)) (l₂ := prs n l) fun p hp => ?_) (prs_len8 hg)
  rw [← allR_is hg]
  obtain ⟨u, hu, h⟩ := allR_mem.1 hp
  exact allR_mem.2 ⟨u, by omega, h⟩
theorem filt_next {α : Type} {q : α → Bool} {l : List α} {i : Nat} (hi : i < l.length) : (l.take (i + 1)).filter q = (l.take i).filter q ++ (if q l[i] then [l[i]] else []) := by
  rw [List.take_succ_eq_append_getElem hi, List.filter_append]
  congr 1
  by_cases h : q l[i] <;> simp [h]
end Go.Proofs.Ytbjiejhdgkpjcaa

/- graph.Out, graph.In: the arcs out of a vertex, and into it. -/
namespace Go.Proofs.Ytbjiejhdgkpjcaa
open Go Go.RowKit Fly
set_option linter.unusedVariables false
set_option linter.unusedSimpArgs false


/-- The answer of Out and In. -/
def gends (N : Int) (l : List Arc) (v : Int) (p : Arc → Bool) : List Int := if glooked N l v = 0 then idxs p l else []
def OutΦ (N : Int) (l : List Arc) (v : Int) (p : Arc → Bool) (u : Value) (own : List Seg) : Prop :=
  ∃ s ms, u = .tuple #[s, .int .i64 (glooked N l v)] ∧ own = [ms] ∧ Own 3 1 s (gends N l v p).length (ints (gends N l v p)) ms
theorem glooked_zero {N : Int} {l : List Arc} {v : Int} (h : glooked N l v = 0) : (gcheck N l).2 = 0 ∧ 0 ≤ v ∧ v < N := by
  unfold glooked at h
  split at h
  · rename_i h1; exact absurd h h1
  · split at h
    · simp at h
    · rename_i h1 h2; exact ⟨by simpa using h1, by omega, by omega⟩

end Go.Proofs.Ytbjiejhdgkpjcaa

/- Labels made tidy; labels that go down to what is connected. -/

namespace Go.Proofs.Ytbjiejhdgkpjcaa
open Go Fly
set_option linter.unusedVariables false
set_option linter.unusedSectionVars false
set_option linter.unusedSimpArgs false

/-- The first v labels, tidied. -/
structure TidyTo (L : List Nat) (v : Nat) (P : List Nat) : Prop where
  len : P.length = v
  tidy : Tidy P
  same : ∀ i j (hi : i < P.length) (hj : j < P.length), P[i] = P[j] ↔ L.getD i 0 = L.getD j 0
theorem TidyTo.start (L : List Nat) : TidyTo L 0 [] := ⟨rfl, fun k h => by simp at h, fun i j hi => by simp at hi⟩
theorem nxt_app {P : List Nat} {x k : Nat} (h : k ≤ P.length) : nxt (P ++ [x]) k = nxt P k :=
  nxt_take _ _ k fun j hj => by rw [List.getElem?_append_left (by omega)]
theorem nxt_snoc (P : List Nat) (x : Nat) : nxt (P ++ [x]) (P.length + 1) = if x = nxt P P.length then nxt P P.length + 1 else nxt P P.length := by
  rw [nxt, nxt_app (Nat.le_refl _), List.getElem?_append_right (Nat.le_refl _), Nat.sub_self]
  simp
theorem tidy_snoc {P : List Nat} {x : Nat} (h : Tidy P) (hx : x ≤ nxt P P.length) : Tidy (P ++ [x]) := fun k hk => by
  rw [List.length_append] at hk
  simp at hk
  rw [nxt_app (by omega)]
  rw [List.getElem_append]
  split
  · rename_i hlt; exact h k hlt
  · rename_i hge
    have : k = P.length := by omega
    subst this; simpa using hx
theorem same_snoc {L P : List Nat} {x : Nat} (h : ∀ i j (hi : i < P.length) (hj : j < P.length), P[i] = P[j] ↔ L.getD i 0 = L.getD j 0) (hx : ∀ i (hi : i < P.length), P[i] = x ↔ L.getD i 0 = L.getD P.length 0) :
    ∀ i j (hi : i < (P ++ [x]).length) (hj : j < (P ++ [x]).length), (P ++ [x])[i] = (P ++ [x])[j] ↔ L.getD i 0 = L.getD j 0 := fun i j hi hj => by
  rw [List.length_append] at hi hj
  simp at hi hj
  rw [List.getElem_append, List.getElem_append]
  split <;> rename_i h1 <;> split <;> rename_i h2
  · exact h i j h1 h2
  · have : j = P.length := by omega
    subst this; simpa using hx i h1
  · have : i = P.length := by omega
    subst this
    constructor
    · intro e; exact ((hx j h2).1 (by simpa using e.symm)).symm
    · intro e; have := (hx j h2).2 e.symm; simpa using this.symm
  · have : i = P.length := by omega
    have : j = P.length := by omega
    simp_all
theorem TidyTo.old {L P : List Nat} {v u : Nat} (h : TidyTo L v P) (hu : u < P.length) (he : L.getD u 0 = L.getD v 0) : TidyTo L (v + 1) (P ++ [P[u]]) ∧ nxt (P ++ [P[u]]) (v + 1) = nxt P v := by
  have hl := h.len
  have hb := below_next h.tidy hu (k := P.length) hu
  subst hl
  refine ⟨⟨by simp, tidy_snoc h.tidy (by omega), same_snoc h.same fun i hi => ?_⟩, by rw [nxt_snoc, if_neg (by omega)]⟩
  rw [h.same i u hi hu, he]
theorem TidyTo.new {L P : List Nat} {v : Nat} (h : TidyTo L v P) (hn : ∀ u, u < v → L.getD u 0 ≠ L.getD v 0) : TidyTo L (v + 1) (P ++ [nxt P v]) ∧ nxt (P ++ [nxt P v]) (v + 1) = nxt P v + 1 := by
  have hl := h.len
  subst hl
  refine ⟨⟨by simp, tidy_snoc h.tidy (Nat.le_refl _), same_snoc h.same fun i hi => ?_⟩, by rw [nxt_snoc, if_pos rfl]⟩
  have := below_next h.tidy hi (k := P.length) hi
  exact ⟨fun e => by omega, fun e => absurd e (hn i hi)⟩

/-- Labels each of which is connected with its vertex. -/
structure CI (es : List (Nat × Nat)) (n : Nat) (o : List Nat) : Prop where
  len : o.length = n
  lt : ∀ v (h : v < o.length), o[v] < n
  conn : ∀ v (h : v < o.length), Conn es v o[v]
theorem CI.start (es : List (Nat × Nat)) (n : Nat) : CI es n (List.range n) := ⟨by simp, fun v h => by simpa using h, fun v h => by simp; exact .refl v⟩
theorem CI.set {es : List (Nat × Nat)} {n : Nat} {o : List Nat} (h : CI es n o) {a x : Nat} (ha : a < o.length) (hx : x < n) (hc : Conn es a x) : CI es n (o.set a x) where
  len := by rw [List.length_set]; exact h.len
  lt := fun v hv => by rw [List.getElem_set]; split; exact hx; exact h.lt v (by simpa using hv)
  conn := fun v hv => by
    rw [List.getElem_set]; split
    · rename_i e; subst e; exact hc
    · exact h.conn v (by simpa using hv)
theorem CI.join {es : List (Nat × Nat)} {n : Nat} {o : List Nat} (h : CI es n o) {a b : Nat} (ha : a < o.length) (hb : b < o.length) (he : (a, b) ∈ es) : CI es n ((o.set a (min o[a] o[b])).set b (min o[a] o[b])) := by
  have hl : min o[a] o[b] < n := by have := h.lt a ha; omega
  have c1 : Conn es a (min o[a] o[b]) := by
    rcases Nat.le_total o[a] o[b] with hle | hle
    · rw [Nat.min_eq_left hle]; exact h.conn a ha
    · rw [Nat.min_eq_right hle]; exact (Conn.edge (.inl he)).trans (h.conn b hb)
  have c2 : Conn es b (min o[a] o[b]) := (Conn.edge (.inr he)).trans c1
  exact (h.set ha hl c1).set (by rw [List.length_set]; exact hb) hl c2
def nsum : List Nat → Nat
  | [] => 0
  | x :: r => x + nsum r
theorem nsum_set : ∀ {l : List Nat} {i x : Nat} (h : i < l.length), nsum (l.set i x) + l[i] = nsum l + x
  | y :: r, 0, x, _ => by simp [nsum]; omega
  | y :: r, i + 1, x, h => by
    have := nsum_set (l := r) (i := i) (x := x) (by simpa using h)
    simp only [List.set_cons_succ, nsum, List.getElem_cons_succ]; omega
theorem nsum_join {o : List Nat} {a b : Nat} (ha : a < o.length) (hb : b < o.length) (hne : o[a] ≠ o[b]) : nsum ((o.set a (min o[a] o[b])).set b (min o[a] o[b])) < nsum o := by
  have hab : a ≠ b := fun e => by subst e; exact hne rfl
  have h1 := nsum_set (l := o) (i := a) (x := min o[a] o[b]) ha
  have h2 := nsum_set (l := o.set a (min o[a] o[b])) (i := b) (x := min o[a] o[b]) (by rw [List.length_set]; exact hb)
  rw [List.getElem_set_ne hab] at h2
  omega
/-- When all ends agree, what is connected has one label. -/
theorem CI.done {es : List (Nat × Nat)} {n : Nat} {o P : List Nat} (h : CI es n o) (he : ∀ e ∈ es, o.getD e.1 0 = o.getD e.2 0) (hP : TidyTo o n P) : IsParts n es P where
  len := hP.len
  tidy := hP.tidy
  conn := fun u v hu hv => by
    rw [hP.same u v hu hv]
    have hl := hP.len; have ho := h.len
    have e1 : o.getD u 0 = o[u]'(by omega) := by simp [List.getD_eq_getElem?_getD, show u < o.length by omega]
    have e2 : o.getD v 0 = o[v]'(by omega) := by simp [List.getD_eq_getElem?_getD, show v < o.length by omega]
    constructor
    · intro e
      rw [e1, e2] at e
      exact (h.conn u (by omega)).trans (e ▸ (h.conn v (by omega)).symm)
    · intro hc; exact conn_eq_of_up (f := fun x => o.getD x 0) he hc
end Go.Proofs.Ytbjiejhdgkpjcaa
