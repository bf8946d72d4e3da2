/- How a statement's arguments read: from the form's reading of data to lists. -/
import Derived.Test.YtkmkakpadgljeaaGreatFlyMem
import Derived.Deep.Slices
import Derived.Deep.Strs
import Derived.Deep.Fields
import Derived.ChangeSame
import Derived.ChangeOld
import Derived.Carry
import Derived.OpenShut
import Derived.ProofKit
import Derived.SizedLaws
import Derived.Deep.CondSized
import Derived.JoinedCond
import Derived.Lib.SmallJoins

namespace Go.Proofs.YtkmkakpadgljeaaGreat.Fly
open Go Go.RowKit Go.ChangeShapes Go.WideShapes Go.Deep
set_option linter.unusedVariables false
set_option linter.unusedSimpArgs false
set_option linter.unusedSectionVars false

section
variable {H : Type} {enc : TypeId × Value → H} {P : Program} {w : World}

/-- What the cells of a type read as. -/
def Reads (enc : TypeId × Value → H) (P : Program) (w : World) (t : TypeId) {α : Type} (cells : α → List Value) (Ok : α → Prop) : Prop :=
  ∀ fuel cs y, DataW.trod enc P w 0 (fun _ => true) true fuel t cs = some y → ∃ x, cs = cells x ∧ Ok x

theorem reads_int {t : TypeId} {k : IntKind} (ht : P.underlying t = some (.int k)) : Reads enc P w t (fun n => [.int k n]) (fun n => (Lit.int k n).wf = true) := fun fuel cs y h => by
  obtain ⟨n, rfl, _, hw⟩ := DataW.trod_int ht h
  exact ⟨n, rfl, hw⟩

theorem pieces3 {α : Type} {cs : List α} {a b c : α} (hl : cs.length = 3) (h0 : (cs.drop 0).take 1 = [a]) (h1 : (cs.drop 1).take 1 = [b]) (h2 : (cs.drop 2).take 1 = [c]) : cs = [a, b, c] := by
  match cs, hl with
  | [x, y, z], _ => simp at h0 h1 h2; subst h0; subst h1; subst h2; rfl
theorem pieces2 {α : Type} {cs : List α} {a b : α} (hl : cs.length = 2) (h0 : (cs.drop 0).take 1 = [a]) (h1 : (cs.drop 1).take 1 = [b]) : cs = [a, b] := by
  match cs, hl with
  | [x, y], _ => simp at h0 h1; subst h0; subst h1; rfl

theorem i64_wf {n : Int} (h : (Lit.int .i64 n).wf = true) : I64 n := by
  simpa [Lit.wf, IntKind.min, IntKind.max, IntKind.signed, IntKind.bits] using h
theorem u32_wf {n : Int} (h : (Lit.int .u32 n).wf = true) : 0 ≤ n ∧ n ≤ 4294967295 := by
  simpa [Lit.wf, IntKind.min, IntKind.max, IntKind.signed, IntKind.bits] using h

/-- Three fields of one cell each. -/
theorem reads3 {t : TypeId} {f0 f1 f2 : Field} (ht : P.underlying t = some (.struct #[f0, f1, f2])) (hC : P.cellsOf t = 3) (h0 : f0.offset = 0 ∧ P.cellsOf f0.type = 1) (h1 : f1.offset = 1 ∧ P.cellsOf f1.type = 1) (h2 : f2.offset = 2 ∧ P.cellsOf f2.type = 1)
    {α β γ : Type} {ca : α → Value} {cb : β → Value} {cc : γ → Value} {A : α → Prop} {B : β → Prop} {C : γ → Prop}
    (ra : Reads enc P w f0.type (fun x => [ca x]) A) (rb : Reads enc P w f1.type (fun x => [cb x]) B) (rc : Reads enc P w f2.type (fun x => [cc x]) C) :
    Reads enc P w t (fun x : α × β × γ => [ca x.1, cb x.2.1, cc x.2.2]) (fun x => A x.1 ∧ B x.2.1 ∧ C x.2.2) := fun fuel cs y h => by
  obtain ⟨y0, y1, y2, n, _, hl, e0, e1, e2⟩ := trod_struct3 ht h
  rw [h0.1, h0.2] at e0
  rw [h1.1, h1.2] at e1
  rw [h2.1, h2.2] at e2
  obtain ⟨x0, p0, a0⟩ := ra _ _ _ e0
  obtain ⟨x1, p1, a1⟩ := rb _ _ _ e1
  obtain ⟨x2, p2, a2⟩ := rc _ _ _ e2
  exact ⟨(x0, x1, x2), pieces3 (hl.trans hC) p0 p1 p2, a0, a1, a2⟩
theorem reads2 {t : TypeId} {f0 f1 : Field} (ht : P.underlying t = some (.struct #[f0, f1])) (hC : P.cellsOf t = 2) (h0 : f0.offset = 0 ∧ P.cellsOf f0.type = 1) (h1 : f1.offset = 1 ∧ P.cellsOf f1.type = 1)
    {α β : Type} {ca : α → Value} {cb : β → Value} {A : α → Prop} {B : β → Prop}
    (ra : Reads enc P w f0.type (fun x => [ca x]) A) (rb : Reads enc P w f1.type (fun x => [cb x]) B) :
    Reads enc P w t (fun x : α × β => [ca x.1, cb x.2]) (fun x => A x.1 ∧ B x.2) := fun fuel cs y h => by
  obtain ⟨y0, y1, n, _, hl, e0, e1⟩ := trod_struct2 ht h
  rw [h0.1, h0.2] at e0
  rw [h1.1, h1.2] at e1
  obtain ⟨x0, p0, a0⟩ := ra _ _ _ e0
  obtain ⟨x1, p1, a1⟩ := rb _ _ _ e1
  exact ⟨(x0, x1), pieces2 (hl.trans hC) p0 p1, a0, a1⟩

/-- What is told of a slice that came in. -/
structure SlIn (w : World) {α : Type} (cells : α → List Value) (Ok : α → Prop) (A : Option Addr) (l : List α) (cap : Nat) : Prop where
  ro : Ro (Fr w []) w A (l.flatMap cells)
  ok : ∀ x ∈ l, Ok x
  le : l.length ≤ cap
  max : cap ≤ 9223372036854775807
  nil : A = none → l = [] ∧ cap = 0

theorem list_of {α : Type} {R : Nat → α → Prop} : ∀ {n : Nat}, (∀ i, i < n → ∃ x, R i x) → ∃ l : List α, l.length = n ∧ ∀ i (h : i < l.length), R i l[i]
  | 0, _ => ⟨[], rfl, fun i h => by simp at h⟩
  | n + 1, h => by
    obtain ⟨l, hl, hr⟩ := list_of (n := n) fun i hi => h i (by omega)
    obtain ⟨x, hx⟩ := h n (by omega)
    refine ⟨l ++ [x], by simp [hl], fun i hi => ?_⟩
    by_cases hil : i < l.length
    · rw [List.getElem_append_left hil]; exact hr i hil
    · have : i = n := by simp at hi; omega
      subst this
      rw [List.getElem_append_right (by omega)]
      simpa [hl] using hx

theorem reads_slice {t e : TypeId} (ht : P.underlying t = some (.slice e)) {α : Type} {cells : α → List Value} {Ok : α → Prop} {sz : Nat} (hC : P.cellsOf e = sz) (hs : ∀ x, (cells x).length = sz) (hz : 0 < sz) (he : Reads enc P w e cells Ok) :
    Reads enc P w t (fun x : Option Addr × List α × Nat => [.slice x.1 x.2.1.length x.2.2]) (fun x => SlIn w cells Ok x.1 x.2.1 x.2.2) := fun fuel cs y h => by
  rcases open_slice ht h with ⟨rfl, _⟩ | ⟨a, len, cap, m, n, D, Pl, rfl, hb, hl, hm, hmm, hx, hi⟩
  · exact ⟨(none, [], 0), rfl, ⟨Ro.nil, by simp, by simp, by simp, fun _ => ⟨rfl, rfl⟩⟩⟩
  · simp only [if_true] at hmm
    subst hmm
    have key : ∀ i, i < len → ∃ x, Ok x ∧ ∀ j v, (cells x)[j]? = some v → w.cell? (a.add (i * sz + j)) = some v := fun i hil => by
      obtain ⟨cs', hc, htr⟩ := hi i (by omega)
      obtain ⟨x, rfl, hok⟩ := he _ _ _ htr
      obtain ⟨_, hcl, hat⟩ := World.cells?_some hc
      refine ⟨x, hok, fun j v hj => ?_⟩
      have hjl : j < P.cellsOf e := by have := (List.getElem?_eq_some_iff.1 hj).1; rw [hs] at this; omega
      have := hat j hjl
      rw [hj, add_add, hC] at this
      exact this
    obtain ⟨l, rfl, hall⟩ := list_of key
    refine ⟨(some a, l, m), rfl, ⟨?_, fun x hx => ?_, hl, hm, fun e => by cases e⟩⟩
    · intro hne
      have hpos : 0 < l.length := by
        rcases Nat.eq_zero_or_pos l.length with h0 | h0
        · rw [List.length_eq_zero_iff] at h0; subst h0; exact absurd rfl hne
        · exact h0
      have hcell : ∀ i j v (hi : i < l.length), (cells l[i])[j]? = some v → w.cell? (a.add (i * sz + j)) = some v := fun i j v hi hj => (hall i hi).2 j v hj
      have h0 := hcell 0 0 ((cells l[0])[0]'(by rw [hs]; exact hz)) hpos (List.getElem?_eq_getElem _)
      have hspot : a.spot = none := by
        unfold World.cell? at h0
        simp only [Nat.zero_mul, Nat.add_zero, Addr.add, if_true] at h0
        split at h0
        · split at h0
          · cases h0
          · rename_i hs'; simpa using hs'
        · cases h0
      have ha : a = ⟨a.block, a.off, none⟩ := by cases a; simp only at hspot; subst hspot; rfl
      refine ⟨a.block, a.off, by rw [← ha], ⟨?_, by simp⟩, fun q v hq => ?_⟩
      · have := World.block_lt_of_cell? w _ h0
        simpa [Addr.add] using this
      · have hqs : q % sz < sz := Nat.mod_lt _ hz
        have hql : q < l.length * sz := by have := (List.getElem?_eq_some_iff.1 hq).1; rwa [flat_length cells hs] at this
        have hqi : q / sz < l.length := (Nat.div_lt_iff_lt_mul hz).2 hql
        have e : q / sz * sz + q % sz = q := Nat.div_add_mod' q sz
        rw [← e, flat_get cells hs l (q / sz) (q % sz) hqi hqs] at hq
        have := hcell _ _ v hqi hq
        rw [e, ha, add_at] at this
        exact this
    · obtain ⟨i, hi', rfl⟩ := List.mem_iff_getElem.1 hx
      exact (hall i hi').1

theorem Reads.map {t : TypeId} {α β : Type} {ca : α → List Value} {cb : β → List Value} {A : α → Prop} {B : β → Prop} (h : Reads enc P w t ca A) (f : α → β) (hc : ∀ x, ca x = cb (f x)) (hA : ∀ x, A x → B (f x)) : Reads enc P w t cb B :=
  fun fuel cs y hy => let ⟨x, e, hx⟩ := h fuel cs y hy; ⟨f x, e.trans (hc x), hA x hx⟩

theorem arg_struct {t : TypeId} {fs : Array Field} {base : Nat} {v : Value} {d : DataW H} {p : List MemPlace} {α : Type} {cells : α → List Value} {Ok : α → Prop} (ht : P.underlying t = some (.struct fs)) (hv : Value.okWide P w .any base t v)
    (h : DataW.Trod enc P w 0 (fun _ => true) true t v d p) (hr : Reads enc P w t cells Ok) : ∃ x, v = .agg (cells x).toArray ∧ Ok x := by
  obtain ⟨cs, rfl, _⟩ := okWide_struct ht hv
  obtain ⟨fuel, hf⟩ := h
  obtain ⟨x, e, hx⟩ := hr _ _ _ hf
  refine ⟨x, ?_, hx⟩
  have : cs.toList = cells x := e
  rw [← this]
theorem arg_slice {t e : TypeId} {base : Nat} {v : Value} {d : DataW H} {p : List MemPlace} {α : Type} {cells : α → Value} {Ok : α → Prop} (ht : P.underlying t = some (.slice e)) (hv : Value.okWide P w .any base t v)
    (h : DataW.Trod enc P w 0 (fun _ => true) true t v d p) (hr : Reads enc P w t (fun x => [cells x]) Ok) : ∃ x, v = cells x ∧ Ok x := by
  obtain ⟨a, len, cap, rfl⟩ := okWide_slice ht hv
  obtain ⟨fuel, hf⟩ := h
  obtain ⟨x, e, hx⟩ := hr _ _ _ hf
  refine ⟨x, ?_, hx⟩
  have : [Value.slice a len cap] = [cells x] := e
  exact (List.cons.inj this).1

theorem reads_string {t : TypeId} (ht : P.underlying t = some .string) : Reads enc P w t (fun s : ByteArray => [.string s]) (fun _ => True) := fun fuel cs y h => by
  obtain ⟨s, rfl, _⟩ := DataW.trod_string ht h
  exact ⟨s, rfl, trivial⟩
theorem reads_bool {t : TypeId} (ht : P.underlying t = some .bool) : Reads enc P w t (fun b : Bool => [.bool b]) (fun _ => True) := fun fuel cs y h => by
  obtain ⟨b, rfl, _⟩ := DataW.trod_bool ht h
  exact ⟨b, rfl, trivial⟩
theorem reads_i64 {t : TypeId} (ht : P.underlying t = some (.int .i64)) : Reads enc P w t (fun n : Int => [.int .i64 n]) I64 := fun fuel cs y h =>
  let ⟨n, e, h⟩ := reads_int ht fuel cs y h; ⟨n, e, i64_wf h⟩
theorem u64_wf {n : Int} (h : (Lit.int .u64 n).wf = true) : 0 ≤ n ∧ n ≤ 18446744073709551615 := by
  simpa [Lit.wf, IntKind.min, IntKind.max, IntKind.signed, IntKind.bits] using h
theorem reads_u64 {t : TypeId} (ht : P.underlying t = some (.int .u64)) : Reads enc P w t (fun n : Int => [.int .u64 n]) (fun n => 0 ≤ n ∧ n ≤ 18446744073709551615) := fun fuel cs y h =>
  let ⟨n, e, hw⟩ := reads_int ht fuel cs y h
  ⟨n, e, u64_wf hw⟩
theorem reads_u32 {t : TypeId} (ht : P.underlying t = some (.int .u32)) : Reads enc P w t (fun n : Int => [.int .u32 n]) (fun n => 0 ≤ n ∧ n ≤ 4294967295) := fun fuel cs y h =>
  let ⟨n, e, h⟩ := reads_int ht fuel cs y h; ⟨n, e, u32_wf h⟩
theorem arg_int {t : TypeId} {base : Nat} {v : Value} {d : DataW H} {p : List MemPlace} (ht : P.underlying t = some (.int .i64)) (hv : Value.okWide P w .any base t v) (h : DataW.Trod enc P w 0 (fun _ => true) true t v d p) : ∃ n, v = .int .i64 n ∧ I64 n := by
  obtain ⟨n, rfl⟩ := okWide_int ht hv
  obtain ⟨fuel, hf⟩ := h
  obtain ⟨x, e, hx⟩ := reads_i64 ht _ _ _ hf
  simp [Value.cells] at e
  exact ⟨n, rfl, e ▸ hx⟩
theorem arg_u32 {t : TypeId} {base : Nat} {v : Value} {d : DataW H} {p : List MemPlace} (ht : P.underlying t = some (.int .u32)) (hv : Value.okWide P w .any base t v) (h : DataW.Trod enc P w 0 (fun _ => true) true t v d p) : ∃ n, v = .int .u32 n ∧ (0 ≤ n ∧ n ≤ 4294967295) := by
  obtain ⟨n, rfl⟩ := okWide_int ht hv
  obtain ⟨fuel, hf⟩ := h
  obtain ⟨x, e, hx⟩ := reads_u32 ht _ _ _ hf
  simp [Value.cells] at e
  exact ⟨n, rfl, e ▸ hx⟩
theorem arg_string {t : TypeId} {base : Nat} {v : Value} {d : DataW H} {p : List MemPlace} (ht : P.underlying t = some .string) (hv : Value.okWide P w .any base t v) (h : DataW.Trod enc P w 0 (fun _ => true) true t v d p) : ∃ s, v = .string s ∧ True := by
  obtain ⟨s, rfl⟩ := okWide_string ht hv; exact ⟨s, rfl, trivial⟩
theorem arg_bool {t : TypeId} {base : Nat} {v : Value} {d : DataW H} {p : List MemPlace} (ht : P.underlying t = some .bool) (hv : Value.okWide P w .any base t v) (h : DataW.Trod enc P w 0 (fun _ => true) true t v d p) : ∃ s, v = .bool s ∧ True := by
  obtain ⟨s, rfl⟩ := okWide_bool ht hv; exact ⟨s, rfl, trivial⟩
theorem arg_sliceOf {t e : TypeId} {base : Nat} {v : Value} {d : DataW H} {p : List MemPlace} {α : Type} {cells : α → List Value} {Ok : α → Prop} {sz : Nat} (ht : P.underlying t = some (.slice e)) (hC : P.cellsOf e = sz) (hs : ∀ x, (cells x).length = sz) (hz : 0 < sz) (he : Reads enc P w e cells Ok)
    (hv : Value.okWide P w .any base t v) (h : DataW.Trod enc P w 0 (fun _ => true) true t v d p) : ∃ x : Option Addr × List α × Nat, v = .slice x.1 x.2.1.length x.2.2 ∧ SlIn w cells Ok x.1 x.2.1 x.2.2 :=
  arg_slice (cells := fun x : Option Addr × List α × Nat => .slice x.1 x.2.1.length x.2.2) ht hv h (reads_slice ht hC hs hz he)
theorem flat_one {α : Type} (f : α → Value) (l : List α) : (l.flatMap fun x => [f x]) = l.map f := by induction l <;> simp_all

/-- An argument's places lie in the old heap. -/
theorem trod_places {t : TypeId} {v : Value} {d : DataW H} {p : List MemPlace} (h : DataW.Trod enc P w 0 (fun _ => true) true t v d p) : ∀ x ∈ p, x.block < w.heap.size := by
  obtain ⟨m, hm⟩ := h
  exact DataW.trod_lt m _ _ _ hm

/-! graphs -/
theorem reads_arc {t : TypeId} {f0 f1 f2 : Field} (ht : P.underlying t = some (.struct #[f0, f1, f2])) (hC : P.cellsOf t = 3) (h0 : f0.offset = 0 ∧ P.cellsOf f0.type = 1) (h1 : f1.offset = 1 ∧ P.cellsOf f1.type = 1) (h2 : f2.offset = 2 ∧ P.cellsOf f2.type = 1)
    (u0 : P.underlying f0.type = some (.int .i64)) (u1 : P.underlying f1.type = some (.int .i64)) (u2 : P.underlying f2.type = some (.int .u32)) : Reads enc P w t arcCs ArcOk :=
  (reads3 ht hC h0 h1 h2 (ca := fun n => .int .i64 n) (cb := fun n => .int .i64 n) (cc := fun n => .int .u32 n) (reads_int u0) (reads_int u1) (reads_int u2)).map (fun x => ⟨x.1, x.2.1, x.2.2⟩) (fun x => rfl)
    fun x hx => ⟨i64_wf hx.1, i64_wf hx.2.1, u32_wf hx.2.2⟩

/-- What is told of a graph that came in. -/
structure GrIn (w : World) (N : Int) (A : Option Addr) (l : List Arc) (cap : Nat) : Prop where
  n : I64 N
  arcs : SlIn w arcCs ArcOk A l cap
theorem reads_graph {t : TypeId} {f0 f1 : Field} {e : TypeId} (ht : P.underlying t = some (.struct #[f0, f1])) (hC : P.cellsOf t = 2) (h0 : f0.offset = 0 ∧ P.cellsOf f0.type = 1) (h1 : f1.offset = 1 ∧ P.cellsOf f1.type = 1)
    (u0 : P.underlying f0.type = some (.int .i64)) (u1 : P.underlying f1.type = some (.slice e)) (hCe : P.cellsOf e = 3) (he : Reads enc P w e arcCs ArcOk) :
    Reads enc P w t (fun x : Int × Option Addr × List Arc × Nat => [.int .i64 x.1, .slice x.2.1 x.2.2.1.length x.2.2.2]) (fun x => GrIn w x.1 x.2.1 x.2.2.1 x.2.2.2) :=
  (reads2 ht hC h0 h1 (ca := fun n => .int .i64 n) (cb := fun x : Option Addr × List Arc × Nat => .slice x.1 x.2.1.length x.2.2) (reads_int u0) (reads_slice u1 hCe arcCs_len (by omega) he)).map (fun x => x) (fun x => rfl)
    fun x hx => ⟨i64_wf hx.1, hx.2⟩

/-- How much room a slice takes up. -/
theorem arg_room {ts : List TypeId} {ds : List (DataW H)} {t e : TypeId} {A : Option Addr} {len cap j : Nat} {d : DataW H} {p : List MemPlace} (ht : P.underlying t = some (.slice e)) (h : DataW.Trod enc P w 0 (fun _ => true) true t (.slice A len cap) d p)
    (hs : (DataW.weightsEach P ts ds).all (· ≤ reachBytes) = true) (hj : ts[j]? = some t) (hd : ds[j]? = some d) : cap * P.bytesOf e ≤ 140737488351232 := by
  obtain ⟨fuel, hf⟩ := h
  rcases open_slice ht hf with ⟨e1, e2⟩ | ⟨a, l', c', m, n, D, Pl, e1, _, hl, _, hm, hx, _⟩
  · have e : [Value.slice A len cap] = [Value.slice none 0 0] := e1
    simp only [List.cons.injEq, Value.slice.injEq, and_true] at e
    rw [e.2.2]; simp
  · have e : [Value.slice A len cap] = [Value.slice (some a) l' c'] := e1
    simp only [List.cons.injEq, Value.slice.injEq, and_true] at e
    obtain ⟨rfl, rfl, rfl⟩ := e
    simp only [if_true] at hm
    subst hm
    have hd' : ds[j]? = some (.slice ((List.range len).map D) ((List.range (m - len)).map fun j => D (len + j))) := by rw [hd]; exact congrArg some (Prod.mk.inj hx).1
    have := sized_slice hs hj hd' ht
    simp only [List.length_map, List.length_range] at this
    rw [show len + (m - len) = m from by omega] at this
    exact Nat.le_trans this (by decide)

/-- What a slice weighs. -/
theorem slice_weight {t e : TypeId} {A : Option Addr} {len cap fuel : Nat} {x : DataW H × List MemPlace} (ht : P.underlying t = some (.slice e)) (hf : DataW.trod enc P w 0 (fun _ => true) true fuel t [.slice A len cap] = some x) : cap * P.bytesOf e = 0 ∨ cap * P.bytesOf e ∈ x.1.weights P t := by
  rcases open_slice ht hf with ⟨e1, e2⟩ | ⟨a, l', c', m, n, D, Pl, e1, _, hl, _, hm, hx, _⟩
  · simp only [List.cons.injEq, Value.slice.injEq, and_true] at e1
    left; rw [e1.2.2]; simp
  · simp only [List.cons.injEq, Value.slice.injEq, and_true] at e1
    obtain ⟨rfl, rfl, rfl⟩ := e1
    simp only [if_true] at hm
    subst hm
    right
    rw [hx]
    simp only [DataW.weights, ht, List.length_map, List.length_range]
    rw [show len + (m - len) = m from by omega]
    simp
theorem arg_room2 {ts : List TypeId} {ds : List (DataW H)} {t e : TypeId} {f0 f1 : Field} {a : Value} {A : Option Addr} {len cap j : Nat} {d : DataW H} {p : List MemPlace} (ht : P.underlying t = some (.struct #[f0, f1])) (h1 : f1.offset = 1 ∧ P.cellsOf f1.type = 1) (u1 : P.underlying f1.type = some (.slice e))
    (h : DataW.Trod enc P w 0 (fun _ => true) true t (.agg #[a, .slice A len cap]) d p) (hs : (DataW.weightsEach P ts ds).all (· ≤ reachBytes) = true) (hj : ts[j]? = some t) (hd : ds[j]? = some d) : cap * P.bytesOf e ≤ 140737488351232 := by
  obtain ⟨fuel, hf⟩ := h
  obtain ⟨y0, y1, n, hx, _, _, e1⟩ := trod_struct2 ht hf
  rw [h1.1, h1.2] at e1
  have e2 : DataW.trod enc P w 0 (fun _ => true) true n f1.type [.slice A len cap] = some y1 := e1
  rcases slice_weight u1 e2 with h0 | hm
  · omega
  · have hdd : d = .agg [y0.1, y1.1] := (Prod.mk.inj hx).1
    have := List.all_eq_true.1 hs _ (DataW.weights_mem_each hj hd (cap * P.bytesOf e) (by rw [hdd]; simp only [DataW.weights, ht, DataW.weightsEach, List.toList_toArray, List.map_cons]; exact List.mem_append_right _ (List.mem_append_left _ hm)))
    exact Nat.le_trans (of_decide_eq_true this) (by decide)
theorem arg_room3 {ts : List TypeId} {ds : List (DataW H)} {t e : TypeId} {f0 f1 f2 : Field} {a b : Value} {A : Option Addr} {len cap j : Nat} {d : DataW H} {p : List MemPlace} (ht : P.underlying t = some (.struct #[f0, f1, f2])) (h1 : f2.offset = 2 ∧ P.cellsOf f2.type = 1) (u1 : P.underlying f2.type = some (.slice e))
    (h : DataW.Trod enc P w 0 (fun _ => true) true t (.agg #[a, b, .slice A len cap]) d p) (hs : (DataW.weightsEach P ts ds).all (· ≤ reachBytes) = true) (hj : ts[j]? = some t) (hd : ds[j]? = some d) : cap * P.bytesOf e ≤ 140737488351232 := by
  obtain ⟨fuel, hf⟩ := h
  obtain ⟨y0, y1, y2, n, hx, _, _, _, e1⟩ := trod_struct3 ht hf
  rw [h1.1, h1.2] at e1
  have e2 : DataW.trod enc P w 0 (fun _ => true) true n f2.type [.slice A len cap] = some y2 := e1
  rcases slice_weight u1 e2 with h0 | hm
  · omega
  · have hdd : d = .agg [y0.1, y1.1, y2.1] := (Prod.mk.inj hx).1
    have := List.all_eq_true.1 hs _ (DataW.weights_mem_each hj hd (cap * P.bytesOf e) (by rw [hdd]; simp only [DataW.weights, ht, DataW.weightsEach, List.toList_toArray, List.map_cons]; exact List.mem_append_right _ (List.mem_append_right _ (List.mem_append_left _ hm))))
    exact Nat.le_trans (of_decide_eq_true this) (by decide)

/-- A law of which it is known that it answers true. -/
theorem law_ends {f : FuncId} {args : List Value} (h : Meets P f args w [] fun u m => u = .bool true ∧ m = []) : Calls P f args.toArray w fun e w' => e = .returned (.bool true) ∧ Below w.heap.size w w' :=
  (h.below).mono fun _ _ ⟨_, _, he, hb, e, _⟩ => ⟨he.trans (by rw [e]), hb⟩
end
end Go.Proofs.YtkmkakpadgljeaaGreat.Fly
