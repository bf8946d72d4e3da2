/- The small logic: more operations (division, bits). -/
import Derived.Test.YtkmkakpadgljeaaGreatFlyMap
import Derived.Test.YtkmkakpadgljeaaGreatFlySlice

namespace Go.Proofs.YtkmkakpadgljeaaGreat.Fly
open Go Go.RowKit
set_option linter.unusedVariables false
set_option linter.unusedSimpArgs false

variable {P : Program} {n : Nat} {S : Nat → Prop} {w0 : World} {env : Env} {segs : List Seg} {d : Option Tmp} {ty : TypeId} {pos : String} {af : Array Edge} {g : Option (Nat × Bool)}

theorem tmod_nat (a b : Nat) : (a : Int).tmod (b : Int) = ((a % b : Nat) : Int) := rfl
theorem tdiv_nat (a b : Nat) : (a : Int).tdiv (b : Int) = ((a / b : Nat) : Int) := rfl
theorem o_rem {T T' : TypeId} {x y : Operand} {kk : IntKind} {p q : Int} (hx : ev env x = some (.int kk p)) (hy : ev env y = some (.int kk q)) (hq : q ≠ 0) (c : Int) (hc : p.tmod q = c) :
    Pure P n S w0 env segs ⟨d, .binOp .rem T x y T', ty, pos, af, g⟩ (.int kk c) :=
  fun a w ha _ => by simp [execOp, eqGuard, binOp, Op.intDiv, ha.eval hx, ha.eval hy, hc, hq]
theorem o_quo {T T' : TypeId} {x y : Operand} {kk : IntKind} {p q : Int} (hx : ev env x = some (.int kk p)) (hy : ev env y = some (.int kk q)) (hq : q ≠ 0) (c : Int) (hc : kk.wrap (p.tdiv q) = c) :
    Pure P n S w0 env segs ⟨d, .binOp .quo T x y T', ty, pos, af, g⟩ (.int kk c) :=
  fun a w ha _ => by simp [execOp, eqGuard, binOp, Op.intDiv, ha.eval hx, ha.eval hy, hc, hq]
theorem o_shr {T T' : TypeId} {x y : Operand} {kk ky : IntKind} {p q : Int} (hx : ev env x = some (.int kk p)) (hy : ev env y = some (.int ky q)) (hq : 0 ≤ q) (c : Int) (hc : p.fdiv (2 ^ (min q.toNat kk.bits)) = c) :
    Pure P n S w0 env segs ⟨d, .binOp .shr T x y T', ty, pos, af, g⟩ (.int kk c) :=
  fun a w ha _ => by
    have : ¬ q < 0 := by omega
    simp [execOp, eqGuard, binOp, Op.shift, ha.eval hx, ha.eval hy, hc, this]
theorem o_shl {T T' : TypeId} {x y : Operand} {kk ky : IntKind} {p q : Int} (hx : ev env x = some (.int kk p)) (hy : ev env y = some (.int ky q)) (hq : 0 ≤ q) (c : Int) (hc : kk.wrap (p * 2 ^ (min q.toNat kk.bits)) = c) :
    Pure P n S w0 env segs ⟨d, .binOp .shl T x y T', ty, pos, af, g⟩ (.int kk c) :=
  fun a w ha _ => by
    have : ¬ q < 0 := by omega
    simp [execOp, eqGuard, binOp, Op.shift, ha.eval hx, ha.eval hy, hc, this]

theorem o_eqlB {T T' : TypeId} {x y : Operand} {p q : Bool} (hT : P.underlying T = some .bool) (hx : ev env x = some (.bool p)) (hy : ev env y = some (.bool q)) : Pure P n S w0 env segs ⟨d, .binOp .eql T x y T', ty, pos, af, g⟩ (.bool (decide (p = q))) :=
  fun a w ha _ => by
    have : (p == q) = decide (p = q) := by cases p <;> cases q <;> rfl
    simp [execOp, eqGuard, binOp, ha.eval hx, ha.eval hy, run_equal_bool w T p q hT, this]
theorem o_neqB {T T' : TypeId} {x y : Operand} {p q : Bool} (hT : P.underlying T = some .bool) (hx : ev env x = some (.bool p)) (hy : ev env y = some (.bool q)) : Pure P n S w0 env segs ⟨d, .binOp .neq T x y T', ty, pos, af, g⟩ (.bool (decide (p ≠ q))) :=
  fun a w ha _ => by
    cases p <;> cases q <;> simp [execOp, eqGuard, binOp, ha.eval hx, ha.eval hy, run_equal_bool w T _ _ hT]
theorem o_neqN {T T' : TypeId} {x y : Operand} {p : Option Addr} (hT : P.underlying T = some (.pointer (P.pointee T))) (hx : ev env x = some (.pointer p)) (hy : ev env y = some (.pointer none)) : Pure P n S w0 env segs ⟨d, .binOp .neq T x y T', ty, pos, af, g⟩ (.bool (!p.isNone)) :=
  fun a w ha _ => by simp [execOp, eqGuard, binOp, ha.eval hx, ha.eval hy, run_equal_pointer_nil w T p hT]
/-! interface values -/
def notIface : TypeDesc → Bool
  | .interface _ => false
  | _ => true
theorem o_iface {T : TypeId} {x : Operand} {v : Value} {dd : TypeDesc} (hT : P.underlying T = some dd) (hn : notIface dd = true) (hx : ev env x = some v) : Pure P n S w0 env segs ⟨d, .makeInterface T x, ty, pos, af, g⟩ (.iface T v) :=
  fun a w ha _ => by
    have hu : ∀ w, (underlying T).run P w = .ok dd w := run_underlying hT
    cases dd <;> first | (simp [notIface] at hn; done) | simp [execOp, Instr.makeInterface, hu, ha.eval hx]
theorem o_assert {T X : TypeId} {x : Operand} {v : Value} {dd : TypeDesc} (hT : P.underlying T = some dd) (hn : notIface dd = true) (hx : ev env x = some (.iface T v)) : Pure P n S w0 env segs ⟨d, .typeAssert x X T false, ty, pos, af, g⟩ v :=
  fun a w ha _ => by
    have hu : ∀ w, (underlying T).run P w = .ok dd w := run_underlying hT
    cases dd <;> first | (simp [notIface] at hn; done) | simp [execOp, Instr.typeAssert, hu, ha.eval hx]
/-- A call by way of an interface. -/
theorem o_invoke {K : Value → List Seg → Prop} (own fr : List Seg) {f : FuncId} {x : Operand} {T : TypeId} {v : Value} {name : String} {args : List Operand} {tys : Array TypeId} {vs : List Value} {Φ : Value → List Seg → Prop}
    (hc : ∀ args w, (callMethod (.iface T v) name args).run P w = .ok (.enter f (#[v] ++ args)) w)
    (hx : ev env x = some (.iface T v)) (ha : evs env args = some vs)
    (hsub : Sub segs (own ++ fr)) (hspec : ∀ w, Hp S w0 (own ++ fr).flatten w → Meets P f (v :: vs) w own Φ) (k : ∀ v own', Φ v own' → K v (own' ++ fr)) :
    Does P n S w0 env segs ⟨d, .call ⟨.invoke x name, args.toArray, tys⟩, ty, pos, af, g⟩ K :=
  fun a w next Q hE hp hk => does_call (own := own) (fr := fr) (fun a w hE => by
    have e : (#[Value.iface T v] ++ vs.toArray).extract 1 (1 + vs.length) = vs.toArray := by simp
    simp [execOp, resolve, invoke, hE.eval hx, hE.evals ha, hc, e]) hspec k a w next Q hE (hp.sub hsub) hk
section
variable {K : Value → List Seg → Prop}
/-- append to a slice that is owned, of cells that may be none. -/
theorem o_appendQ {T E sz bytes : Nat} {z : List Value} {s x : Operand} {v : Value} {A : Option Addr} {len m c : Nat} {cs ys : List Value} {ms : Seg} {segs' : List Seg} (hT : ElT P T E sz bytes z) (hs : ev env s = some v) (hx : ev env x = some (.slice A m c))
    (hown : Own E sz v len cs ms) [pk : Pick segs ms segs'] (hr : ys ≠ [] → ∃ b off, A = some ⟨b, off, none⟩ ∧ Rds S w0 segs b off ys) (hy : ys.length = m * sz) (hone : ys.all (·.oneCell') = true) (hb : (len + m) * bytes ≤ 140737488355328) (h63 : len + m ≤ 9223372036854775807)
    (k : ∀ v' ms', Own E sz v' (len + m) (cs ++ ys) ms' → K v' (ms' :: segs')) : Does P n S w0 env segs ⟨d, .call ⟨.builtin .append, #[s, x], #[T, T]⟩, ty, pos, af, g⟩ K := by
  by_cases hne : ys = []
  · subst hne
    have hsz : 0 < sz := hT.pos
    have hm : m = 0 := by
      rcases Nat.eq_zero_or_pos m with h | h
      · exact h
      · have := Nat.mul_pos h hsz; simp at hy; omega
    subst hm
    refine does_of fun a w ha hp => ?_
    obtain ⟨i, u, hi, hz, hcz, rfl, rfl⟩ := hT.i
    have hp1 : Hp S w0 ((ms :: segs').flatten) w := hp.perm pk.perm
    refine ⟨v, ms :: segs', w, .inl ?_, hp1, k _ _ (by simpa using hown)⟩
    rcases hown.2 with ⟨rfl, rfl, rfl⟩ | ⟨b0, cap, sp, rfl, rfl, h1, h2, h3⟩
    · cases A <;> simp [execOp, resolve, invoke, builtin, Builtin.append_, run_underlying hT.und, sizeOf, typeInfo, hi, Builtin.lenOf, Builtin.firstCells, loadCells, loadCellsFrom, ha.eval hs, ha.eval hx]
    · cases A <;> simp [execOp, resolve, invoke, builtin, Builtin.append_, run_underlying hT.und, sizeOf, typeInfo, hi, Builtin.lenOf, Builtin.firstCells, loadCells, loadCellsFrom, storeCells, ha.eval hs, ha.eval hx, h1]
  · obtain ⟨b, off, rfl, hr'⟩ := hr hne
    exact o_append hT hs hx hown hr' hy hone hb h63 k
end
/-! segments that are kept as one -/
theorem Sub.flatF {segs out : List Seg} (h : Sub segs out) : Sub segs [out.flatten] := by
  obtain ⟨r, h⟩ := h; exact ⟨r, by simpa using h⟩
theorem Sub.permF {m : Seg} {out : List Seg} (h : m.Perm out.flatten) : Sub [m] out := ⟨[], by simpa using h⟩
theorem Sub.openF {m : Seg} {tl out : List Seg} (h : m.Perm out.flatten) : Sub (m :: tl) (out ++ tl) := ⟨[], by simp only [List.flatten_cons, List.flatten_append, List.append_nil]; exact h.append_right _⟩
theorem Sub.transF {a b c : List Seg} (h : Sub a b) (k : Sub b c) : Sub a c := by
  obtain ⟨r, h⟩ := h
  obtain ⟨q, k⟩ := k
  exact ⟨q ++ r, h.trans (by rw [← List.append_assoc]; exact k.append_right r)⟩
theorem Sub.pickF {segs s1 r : List Seg} {m : Seg} {out : List Seg} [p : Pick segs m s1] (hp : m.Perm out.flatten) (h : Sub (out ++ s1) r) : Sub segs r :=
  Sub.transF (Sub.pick (s := m) Sub.refl) (Sub.transF (Sub.openF hp) h)
/-- An element of an owned slice. -/
theorem rdsOwn {α : Type} {enc : α → List Value} {sz : Nat} (hs : ∀ x, (enc x).length = sz) {l : List α} {sp : List Value} {b T : Nat} {f : Seg → List Seg} [h : At segs b (blk (l.flatMap enc ++ sp) T) f] {k : Nat} (hk : k < l.length) : Rds S w0 segs b (k * sz) (enc l[k]) :=
  rds_of _ _ fun j v hj => rdA (app_get (by rw [flat_get enc hs l k j hk (by rw [← hs l[k]]; exact (List.getElem?_eq_some_iff.1 hj).1)]; exact hj))
theorem rdOwn {α : Type} {enc : α → List Value} {sz : Nat} (hs : ∀ x, (enc x).length = sz) {l : List α} {sp : List Value} {b T : Nat} {f : Seg → List Seg} [h : At segs b (blk (l.flatMap enc ++ sp) T) f] {k j : Nat} {v : Value} (hk : k < l.length) (hj : (enc l[k])[j]? = some v) : Rd S w0 segs b (k * sz + j) v :=
  rdA (app_get (by rw [flat_get enc hs l k j hk (by rw [← hs l[k]]; exact (List.getElem?_eq_some_iff.1 hj).1)]; exact hj))
/-- The first ones of an owned slice. -/
theorem Own.head {E sz len len' cap n : Nat} {A : Option Addr} {cs : List Value} {m : Seg} (h : Own E sz (.slice A len' cap) len cs m) (hn : n ≤ len) : Own E sz (.slice A n cap) n (cs.take (n * sz)) m := by
  obtain ⟨h0, h⟩ := h
  have hle : n * sz ≤ len * sz := Nat.mul_le_mul_right _ hn
  rcases h with ⟨e, rfl, rfl⟩ | ⟨b, c, sp, e, rfl, h1, h2, h3⟩
  · obtain ⟨rfl, rfl, rfl⟩ := Value.slice.inj e
    obtain rfl : n = 0 := by omega
    exact ⟨by simp, .inl ⟨rfl, rfl, rfl⟩⟩
  · obtain ⟨rfl, rfl, rfl⟩ := Value.slice.inj e
    refine ⟨by rw [List.length_take]; omega, .inr ⟨b, cap, cs.drop (n * sz) ++ sp, rfl, by rw [← List.append_assoc, List.take_append_drop], by omega, h2, ?_⟩⟩
    rw [List.length_append, List.length_drop, h3, h0]
    have : (cap - n) * sz = (len' - n) * sz + (cap - len') * sz := by rw [← Nat.add_mul]; congr 1; omega
    rw [this, Nat.sub_mul len' n]
/-- An owned slice whose cells are written over. -/
theorem Own.upd {E sz len len' cap : Nat} {A : Option Addr} {cs : List Value} {m : Seg} (h : Own E sz (.slice A len' cap) len cs m) (hl : 0 < len) :
    ∃ b sp, A = some ⟨b, 0, none⟩ ∧ m = [(b, blk (cs ++ sp) E)] ∧ ∀ cs' : List Value, cs'.length = cs.length → Own E sz (.slice A len' cap) len cs' [(b, blk (cs' ++ sp) E)] := by
  obtain ⟨h0, h⟩ := h
  rcases h with ⟨_, h1, _⟩ | ⟨b, c, sp, e, hm, h1, h2, h3⟩
  · omega
  · exact ⟨b, sp, (Value.slice.inj e).1, hm, fun cs' hc => ⟨by omega, .inr ⟨b, c, sp, e, rfl, h1, h2, h3⟩⟩⟩
theorem own_none {E sz len len' cap : Nat} {A : Option Addr} {cs : List Value} {m : Seg} (h : Own E sz (.slice A len' cap) len cs m) (e : A = none) : len = 0 := by
  rcases Nat.eq_zero_or_pos len with h0 | h0
  · exact h0
  · obtain ⟨b, sp, e', _⟩ := h.at_ h0
    rw [e] at e'; cases e'
/-- One cell of one element. -/
theorem set_flat {α : Type} {enc : α → List Value} {sz : Nat} (hs : ∀ x, (enc x).length = sz) (sp : List Value) {q : Nat} {v : Value} (hq : q < sz) : ∀ (l : List α) (k : Nat) (y : α) (hk : k < l.length), (enc l[k]).set q v = enc y →
    (l.flatMap enc ++ sp).set (k * sz + q) v = (l.set k y).flatMap enc ++ sp
  | x :: l, 0, y, hk, e => by
    simp only [List.getElem_cons_zero] at e
    rw [List.flatMap_cons, List.append_assoc, List.set_append_left _ _ (by rw [hs]; omega), Nat.zero_mul, Nat.zero_add, e, List.set_cons_zero, List.flatMap_cons, List.append_assoc]
  | x :: l, k + 1, y, hk, e => by
    simp only [List.getElem_cons_succ] at e
    rw [List.flatMap_cons, List.append_assoc, List.set_append_right _ _ (by rw [hs, Nat.add_mul]; omega), show (k + 1) * sz + q - (enc x).length = k * sz + q from by rw [hs, Nat.add_mul]; omega,
      set_flat hs sp hq l k y (by simpa using hk) e, List.set_cons_succ, List.flatMap_cons, List.append_assoc]
/-- A block that is known, read by a callee of a callee. -/
theorem heldRo {w w' : World} {b : Nat} {cs : List Value} {T : TypeId} {f : Seg → List Seg} [h : At segs b (blk cs T) f] (hp : Hp S w0 segs.flatten w) (hs : ∀ k, Fr w [] k → w'.heap[k]? = w.heap[k]?) : Ro (Fr w' []) w' (some ⟨b, 0, none⟩) cs := fun hne => by
  have hpos : 0 < cs.length := by cases cs <;> simp_all
  refine ⟨b, 0, rfl, (heldCell (i := 0) hp (List.getElem?_eq_getElem hpos) hs).2, fun k v hk => ?_⟩
  rw [Nat.zero_add]; exact (heldCell hp hk hs).1
theorem seen_ro {S : Nat → Prop} {w : World} {A : Option Addr} {cs : List Value} (h : Seen S w A cs) : Ro S w A cs := fun hne => by
  rcases h with ⟨_, e⟩ | ⟨b, off, e, h⟩
  · exact absurd e hne
  · exact ⟨b, off, e, h hne⟩
theorem ro_seen {S : Nat → Prop} {w : World} {b off : Nat} {cs : List Value} (h : Ro S w (some ⟨b, off, none⟩) cs) : Seen S w (some ⟨b, off, none⟩) cs := .inr ⟨b, off, rfl, fun hne => by
  obtain ⟨b', off', e, hs, hc⟩ := h hne
  cases e
  exact ⟨hs, hc⟩⟩
end Go.Proofs.YtkmkakpadgljeaaGreat.Fly
