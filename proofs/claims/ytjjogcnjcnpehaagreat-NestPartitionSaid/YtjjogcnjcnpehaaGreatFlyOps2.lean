/- The small logic: more operations (division, bits). -/
import Derived.Test.YtjjogcnjcnpehaaGreatFlyMap
import Derived.Test.YtjjogcnjcnpehaaGreatFlySlice
namespace Go.Proofs.YtjjogcnjcnpehaaGreat.Fly
open Go Go.RowKit
set_option linter.unusedVariables false
set_option linter.unusedSimpArgs false
variable {P : Program} {n : Nat} {S : Nat → Prop} {w0 : World} {env : Env} {segs : List Seg} {d : Option Tmp} {ty : TypeId} {pos : String} {af : Array Edge} {g : Option (Nat × Bool)}
theorem tdiv_nat (a b : Nat) : (a : Int).tdiv (b : Int) = ((a / b : Nat) : Int) := rfl
theorem o_quo {T T' : TypeId} {x y : Operand} {kk : IntKind} {p q : Int} (hx : ev env x = some (.int kk p)) (hy : ev env y = some (.int kk q)) (hq : q ≠ 0) (c : Int) (hc : kk.wrap (p.tdiv q) = c) :
    Pure P n S w0 env segs ⟨d, .binOp .quo T x y T', ty, pos, af, g⟩ (.int kk c) :=
  fun a w ha _ => by simp [execOp, eqGuard, binOp, Op.intDiv, ha.eval hx, ha.eval hy, hc, hq]
theorem o_shr {T T' : TypeId} {x y : Operand} {kk ky : IntKind} {p q : Int} (hx : ev env x = some (.int kk p)) (hy : ev env y = some (.int ky q)) (hq : 0 ≤ q) (c : Int) (hc : p.fdiv (2 ^ (min q.toNat kk.bits)) = c) :
    Pure P n S w0 env segs ⟨d, .binOp .shr T x y T', ty, pos, af, g⟩ (.int kk c) :=
  fun a w ha _ => by
    have : ¬ q < 0 := by omega
    simp [execOp, eqGuard, binOp, Op.shift, ha.eval hx, ha.eval hy, hc, this]
theorem o_eqlB {T T' : TypeId} {x y : Operand} {p q : Bool} (hT : P.underlying T = some .bool) (hx : ev env x = some (.bool p)) (hy : ev env y = some (.bool q)) : Pure P n S w0 env segs ⟨d, .binOp .eql T x y T', ty, pos, af, g⟩ (.bool (decide (p = q))) :=
  fun a w ha _ => by
    have : (p == q) = decide (p = q) := by cases p <;> cases q <;> rfl
    simp [execOp, eqGuard, binOp, ha.eval hx, ha.eval hy, run_equal_bool w T p q hT, this]
/-! interface values -/
section
variable {K : Value → List Seg → Prop}
/-- append to a slice that is owned, of cells that may be none. -/
theorem o_appendQ {T E sz bytes : Nat} {z : List Value} {s x : Operand} {v : Value} {A : Option Addr} {len m c : Nat} {cs ys : List Value} {ms : Seg} {segs' : List Seg} (hT : ElT P T E sz bytes z) (hs : ev env s = some v) (hx : ev env x = some (.slice A m c))
    (hown : Own E sz v len cs ms) [pk : Pick segs ms segs'] (hr : ys ≠ [] → ∃ b off, A = some ⟨b, off, none⟩ ∧ Rds S w0 segs b off ys) (hy : ys.length = m * sz) (hone : ys.all (·.oneCell') = true) (hb : (len + m) * bytes ≤ 140737488355328) (h63 : len + m ≤ 9223372036854775807)
    (k : ∀ v' ms', Own E sz v' (len + m) (cs ++ ys) ms' → K v' (ms' :: segs')) : Does P n S w0 env segs ⟨d, .call ⟨.builtin .append, #[s, x], #[T, T]⟩, ty, pos, af, g⟩ K := by
  by_cases hne : ys = []
  · subst hne
    have hsz : 0 < sz := hT.pos
    have hm : m = 0 := by
      rcases Nat.eq_zero_or_pos m with h | h
      · exact h
      · have := Nat.mul_pos h hsz; simp at hy; omega
    subst hm;refine e8 fun a w ha hp => ?_;obtain ⟨i, u, hi, hz, hcz, rfl, rfl⟩ := hT.i
    have hp1 : Hp S w0 ((ms :: segs').flatten) w := hp.perm pk.perm
    refine ⟨v, ms :: segs', w, .inl ?_, hp1, k _ _ (by simpa using hown)⟩
    rcases hown.2 with ⟨rfl, rfl, rfl⟩ | ⟨b0, cap, sp, rfl, rfl, h1, h2, h3⟩
    · cases A <;> simp [execOp, resolve, invoke, builtin, Builtin.append_, run_underlying hT.und, sizeOf, typeInfo, hi, Builtin.lenOf, Builtin.firstCells, loadCells, loadCellsFrom, ha.eval hs, ha.eval hx]
    · cases A <;> simp [execOp, resolve, invoke, builtin, Builtin.append_, run_underlying hT.und, sizeOf, typeInfo, hi, Builtin.lenOf, Builtin.firstCells, loadCells, loadCellsFrom, storeCells, ha.eval hs, ha.eval hx, h1]
  · obtain ⟨b, off, rfl, hr'⟩ := hr hne
    exact dG hT hs hx hown hr' hy hone hb h63 k
end
/-! segments that are kept as one -/
theorem Sub.flatF {segs out : List Seg} (h : Sub segs out) : Sub segs [out.flatten] := by
  obtain ⟨r, h⟩ := h; exact ⟨r, by simpa using h⟩
theorem Sub.permF {m : Seg} {out : List Seg} (h : m.Perm out.flatten) : Sub [m] out := ⟨[], by simpa using h⟩
theorem Sub.openF {m : Seg} {tl out : List Seg} (h : m.Perm out.flatten) : Sub (m :: tl) (out ++ tl) := ⟨[], by simp only [List.flatten_cons, List.flatten_append, List.append_nil]; exact h.append_right _⟩
theorem Sub.transF {a b c : List Seg} (h : Sub a b) (k : Sub b c) : Sub a c := by
  obtain ⟨r, h⟩ := h
  obtain ⟨q, k⟩ := k
  exact ⟨q ++ r, h.trans (by rw [← List.append_assoc]; exact k.append_right r)⟩
theorem Sub.pickF {segs s1 r : List Seg} {m : Seg} {out : List Seg} [p : Pick segs m s1] (hp : m.Perm out.flatten) (h : Sub (out ++ s1) r) : Sub segs r :=
  Sub.transF (aD (s := m) Sub.refl) (Sub.transF (Sub.openF hp) h)
/-- An element of an owned slice. -/
theorem rdsOwn {α : Type} {enc : α → List Value} {sz : Nat} (hs : ∀ x, (enc x).length = sz) {l : List α} {sp : List Value} {b T : Nat} {f : Seg → List Seg} [h : At segs b (blk (l.flatMap enc ++ sp) T) f] {k : Nat} (hk : k < l.length) : Rds S w0 segs b (k * sz) (enc l[k]) :=
  rds_of _ _ fun j v hj => rdA (dN (by rw [flat_get enc hs l k j hk (by rw [← hs l[k]]; exact (List.getElem?_eq_some_iff.1 hj).1)]; exact hj))
/-- The first ones of an owned slice. -/
theorem Own.head {E sz len len' cap n : Nat} {A : Option Addr} {cs : List Value} {m : Seg} (h : Own E sz (.slice A len' cap) len cs m) (hn : n ≤ len) : Own E sz (.slice A n cap) n (cs.take (n * sz)) m := by
  obtain ⟨h0, h⟩ := h
  have hle : n * sz ≤ len * sz := Nat.mul_le_mul_right _ hn
  rcases h with ⟨e, rfl, rfl⟩ | ⟨b, c, sp, e, rfl, h1, h2, h3⟩
  · obtain ⟨rfl, rfl, rfl⟩ := Value.slice.inj e
    obtain rfl : n = 0 := by omega
    exact ⟨by simp, .inl ⟨rfl, rfl, rfl⟩⟩
  · obtain ⟨rfl, rfl, rfl⟩ := Value.slice.inj e
    refine ⟨by rw [List.length_take]; omega, .inr ⟨b, cap, cs.drop (n * sz) ++ sp, rfl, by rw [← List.append_assoc, List.take_append_drop], by omega, h2, ?_⟩⟩;rw [List.length_append, List.length_drop, h3, h0];have : (cap - n) * sz = (len' - n) * sz + (cap - len') * sz := by rw [← Nat.add_mul]; congr 1; omega
    rw [this, Nat.sub_mul len' n]
/-- An owned slice whose cells are written over. -/
theorem Own.upd {E sz len len' cap : Nat} {A : Option Addr} {cs : List Value} {m : Seg} (h : Own E sz (.slice A len' cap) len cs m) (hl : 0 < len) :
    ∃ b sp, A = some ⟨b, 0, none⟩ ∧ m = [(b, blk (cs ++ sp) E)] ∧ ∀ cs' : List Value, cs'.length = cs.length → Own E sz (.slice A len' cap) len cs' [(b, blk (cs' ++ sp) E)] := by
  obtain ⟨h0, h⟩ := h
  rcases h with ⟨_, h1, _⟩ | ⟨b, c, sp, e, hm, h1, h2, h3⟩
  · omega
  · exact ⟨b, sp, (Value.slice.inj e).1, hm, fun cs' hc => ⟨by omega, .inr ⟨b, c, sp, e, rfl, h1, h2, h3⟩⟩⟩
theorem j0 {E sz len len' cap : Nat} {A : Option Addr} {cs : List Value} {m : Seg} (h : Own E sz (.slice A len' cap) len cs m) (e : A = none) : len = 0 := by
  rcases Nat.eq_zero_or_pos len with h0 | h0
  · exact h0
  · obtain ⟨b, sp, e', _⟩ := h.at_ h0
    rw [e] at e'; cases e'
/-- One cell of one element. -/
theorem set_flat {α : Type} {enc : α → List Value} {sz : Nat} (hs : ∀ x, (enc x).length = sz) (sp : List Value) {q : Nat} {v : Value} (hq : q < sz) : ∀ (l : List α) (k : Nat) (y : α) (hk : k < l.length), (enc l[k]).set q v = enc y →
    (l.flatMap enc ++ sp).set (k * sz + q) v = (l.set k y).flatMap enc ++ sp
  | x :: l, 0, y, hk, e => by
    simp only [List.getElem_cons_zero] at e;rw [List.flatMap_cons, List.append_assoc, List.set_append_left _ _ (by rw [hs]; omega), Nat.zero_mul, Nat.zero_add, e, List.set_cons_zero, List.flatMap_cons, List.append_assoc]
  | x :: l, k + 1, y, hk, e => by
    simp only [List.getElem_cons_succ] at e
    rw [List.flatMap_cons, List.append_assoc, List.set_append_right _ _ (by rw [hs, Nat.add_mul]; omega), show (k + 1) * sz + q - (enc x).length = k * sz + q from by rw [hs, Nat.add_mul]; omega,
      set_flat hs sp hq l k y (by simpa using hk) e, List.set_cons_succ, List.flatMap_cons, List.append_assoc]
/-- A block that is known, read by a callee of a callee. -/
theorem heldRo {w w' : World} {b : Nat} {cs : List Value} {T : TypeId} {f : Seg → List Seg} [h : At segs b (blk cs T) f] (hp : Hp S w0 segs.flatten w) (hs : ∀ k, Fr w [] k → w'.heap[k]? = w.heap[k]?) : Ro (Fr w' []) w' (some ⟨b, 0, none⟩) cs := fun hne => by
  have hpos : 0 < cs.length := by cases cs <;> simp_all
  refine ⟨b, 0, rfl, (heldCell (i := 0) hp (List.getElem?_eq_getElem hpos) hs).2, fun k v hk => ?_⟩;rw [Nat.zero_add]; exact (heldCell hp hk hs).1
theorem eU {S : Nat → Prop} {w : World} {A : Option Addr} {cs : List Value} (h : Seen S w A cs) : Ro S w A cs := fun hne => by
  rcases h with ⟨_, e⟩ | ⟨b, off, e, h⟩
  · exact absurd e hne
  · exact ⟨b, off, e, h hne⟩
end Go.Proofs.YtjjogcnjcnpehaaGreat.Fly
