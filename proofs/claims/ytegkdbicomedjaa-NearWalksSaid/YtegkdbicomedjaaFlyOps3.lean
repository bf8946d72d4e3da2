/- The small logic: calls that the model stands in for, copy, bits, rows of slices. -/
import Derived.Test.YtegkdbicomedjaaFlyOps2
import Derived.Laws.CopyRow
import Derived.Laws.Externs

namespace Go.Proofs.Ytegkdbicomedjaa.Fly
open Go Go.RowKit
set_option linter.unusedVariables false
set_option linter.unusedSimpArgs false

variable {P : Program} {n : Nat} {S : Nat → Prop} {w0 : World} {env : Env} {segs : List Seg} {d : Option Tmp} {ty : TypeId} {pos : String} {af : Array Edge} {g : Option (Nat × Bool)}

/-- A call that runs here and now. -/
theorem o_ext {f : FuncId} {args : List Operand} {tys : Array TypeId} {vs : List Value} {v : Value} (ha : evs env args = some vs) (hc : ∀ w, (callFunc f vs.toArray).run P w = .ok (.value v) w) :
    Pure P n S w0 env segs ⟨d, .call ⟨.value (.func f), args.toArray, tys⟩, ty, pos, af, g⟩ v :=
  fun a w hE _ => by simp [execOp, resolve, Deferred.ofValue, invoke, Act.eval, hE.evals ha, hc]
theorem o_and {T T' : TypeId} {x y : Operand} {kk : IntKind} {p q : Int} (hx : ev env x = some (.int kk p)) (hy : ev env y = some (.int kk q)) (c : Int) (hc : kk.wrap ((BitVec.ofInt kk.bits p &&& BitVec.ofInt kk.bits q).toNat) = c) :
    Pure P n S w0 env segs ⟨d, .binOp .and T x y T', ty, pos, af, g⟩ (.int kk c) :=
  fun a w ha _ => by subst hc; simp [execOp, eqGuard, binOp, Op.intBits, ha.eval hx, ha.eval hy]
/-- The low bits. -/
theorem and_mask {k : Nat} {y : Nat} (hk : k ≤ 63) (h : y < 2 ^ 63) : IntKind.u64.wrap ((BitVec.ofInt IntKind.u64.bits (y : Int) &&& BitVec.ofInt IntKind.u64.bits ((2 ^ k - 1 : Nat) : Int)).toNat) = ((y % 2 ^ k : Nat) : Int) := by
  have e : IntKind.u64.bits = 64 := rfl
  have hp : 2 ^ k ≤ 2 ^ 63 := Nat.pow_le_pow_right (by omega) hk
  have hp1 : 0 < 2 ^ k := Nat.pow_pos (by omega)
  have hm : y % 2 ^ k < 2 ^ k := Nat.mod_lt _ hp1
  rw [e]
  rw [show ((y : Nat) : Int) = Int.ofNat y from rfl, show (((2 ^ k - 1 : Nat)) : Int) = Int.ofNat (2 ^ k - 1) from rfl]
  rw [BitVec.toNat_and]
  simp only [BitVec.ofInt_ofNat, BitVec.toNat_ofNat, Int.ofNat_eq_natCast, BitVec.ofInt_natCast]
  rw [Nat.mod_eq_of_lt (by omega), Nat.mod_eq_of_lt (by omega), Nat.and_two_pow_sub_one_eq_mod]
  exact wrap_u64 (by omega)
section
variable {K : Value → List Seg → Prop}
/-- copy of cells into a block that is known. -/
theorem o_copy {dT sT E : TypeId} {x y : Operand} {gb o dLen dCap b off sLen sCap : Nat} {cur cs : List Value} {f : Seg → List Seg} (hu : P.underlying dT = some (.slice E)) (hs : (P.info? E).map (·.size) = some 1)
    (hx : ev env x = some (.slice (some ⟨gb, o, none⟩) dLen dCap)) (hy : ev env y = some (.slice (some ⟨b, off, none⟩) sLen sCap)) [hA : At segs gb (blk cur E) f]
    (hr : Rds S w0 segs b off cs) (hn : cs.length = Nat.min sLen dLen) (hone : cs.all (·.oneCell') = true) (hfit : o + cs.length ≤ cur.length) (cur' : List Value) (he : cur.take o ++ cs ++ cur.drop (o + cs.length) = cur')
    (k : K (.int .i64 (cs.length : Int)) (f [(gb, blk cur' E)])) : Does P n S w0 env segs ⟨d, .call ⟨.builtin .copy, #[x, y], #[dT, sT]⟩, ty, pos, af, g⟩ K :=
  does_of fun a w ha hp => by
    subst he
    have hcells : ∀ j v, cs[j]? = some v → w.cell? ((⟨b, off, none⟩ : Addr).add j) = some v := fun j v hj => by rw [add_at]; exact hr.cells hp j v hj
    obtain ⟨L, R, e1, e2⟩ := hA.flat
    have hcur := hp.own gb _ hA.mem
    have hrun := run_copy_row (P := P) w dT sT ty E gb o dLen dCap ⟨b, off, none⟩ sLen sCap cur.toArray E cs hu hs hcur hn hcells (by simpa using hfit) (by simpa using hone)
    refine ⟨_, _, w.setRow gb (cur.toArray.toList.take o ++ cs ++ cur.toArray.toList.drop (o + cs.length)).toArray, .inl ?_, ?_, k⟩
    · simp [execOp, resolve, invoke, builtin, ha.eval hx, ha.eval hy, hrun, goInt]
    · rw [e2]
      rw [e1] at hp
      exact hp.put rfl rfl rfl (by simp [World.setRow]) (setRow_heap w gb _ (cur.take o ++ cs ++ cur.drop (o + cs.length)).toArray E (0, 0) hcur) (fun k hk => setRow_other w gb k _ hk)
end

/-! rows: a list of lists of numbers, each in memory of its own -/
structure RowsI (E : TypeId) (ls : List (List Int)) (vs : List Value) (ms : List Seg) : Prop where
  lv : vs.length = ls.length
  lm : ms.length = ls.length
  own : ∀ (i : Nat) (h : i < ls.length), Own E 1 (vs[i]'(lv ▸ h)) ls[i].length (ints ls[i]) (ms[i]'(lm ▸ h))
theorem RowsI.start (E : TypeId) (n : Nat) : RowsI E (List.replicate n []) (List.replicate n (.slice none 0 0)) (List.replicate n []) :=
  ⟨by simp, by simp, fun i h => by simp only [List.getElem_replicate]; exact Own.nil E 1⟩
theorem RowsI.set {E : TypeId} {ls : List (List Int)} {vs : List Value} {ms : List Seg} (h : RowsI E ls vs ms) (i : Nat) {l : List Int} {v : Value} {m : Seg} (ho : Own E 1 v l.length (ints l) m) : RowsI E (ls.set i l) (vs.set i v) (ms.set i m) :=
  ⟨by simp [h.lv], by simp [h.lm], fun j hj => by
    rw [List.getElem_set, List.getElem_set, List.getElem_set]
    split
    · exact ho
    · exact h.own j (by simpa using hj)⟩
theorem flat_erase : ∀ (ms : List Seg) (i : Nat) (h : i < ms.length), ms.flatten.Perm (ms[i] ++ (ms.eraseIdx i).flatten)
  | m :: ms, 0, _ => by simp
  | m :: ms, i + 1, h => by
    simp only [List.flatten_cons, List.getElem_cons_succ, List.eraseIdx_cons_succ]
    have ih := flat_erase ms i (by simpa using h)
    refine (List.Perm.append_left m ih).trans ?_
    rw [← List.append_assoc, ← List.append_assoc]
    exact List.perm_append_comm.append_right _
/-- One row, and the others. -/
theorem RowsI.split {E : TypeId} {ls : List (List Int)} {vs : List Value} {ms : List Seg} (h : RowsI E ls vs ms) {i : Nat} (hi : i < ls.length) :
    ∃ v m G, vs[i]? = some v ∧ Own E 1 v ls[i].length (ints ls[i]) m ∧ ms.flatten.Perm (m ++ G) ∧
      ∀ l v' m', Own E 1 v' l.length (ints l) m' → RowsI E (ls.set i l) (vs.set i v') (ms.set i m') ∧ (m' ++ G).Perm (ms.set i m').flatten := by
  have hm : i < ms.length := by rw [h.lm]; exact hi
  refine ⟨_, _, _, List.getElem?_eq_getElem (by rw [h.lv]; exact hi), h.own i hi, flat_erase ms i hm, fun l v' m' ho => ⟨h.set i ho, ?_⟩⟩
  have := flat_erase (ms.set i m') i (by simpa using hm)
  rw [List.getElem_set_self, List.eraseIdx_set_eq] at this
  exact this.symm
theorem Sub.splitF {segs out : List Seg} {G m G' : Seg} [p : Pick segs G out] (hp : G.Perm (m ++ G')) : Sub segs (m :: G' :: out) :=
  Sub.transF (Sub.pick (s := G) Sub.refl) ⟨[], by simp only [List.flatten_cons, List.append_nil]; rw [← List.append_assoc]; exact hp.append_right _⟩
theorem Sub.joinF {segs s1 s2 : List Seg} {m G' G'' : Seg} [p : Pick segs m s1] [q : Pick s1 G' s2] (hp : (m ++ G').Perm G'') : Sub segs (G'' :: s2) :=
  Sub.transF (Sub.pick (s := m) (Sub.pick (s := G') Sub.refl)) ⟨[], by simp only [List.flatten_cons, List.append_nil]; rw [← List.append_assoc]; exact hp.append_right _⟩
end Go.Proofs.Ytegkdbicomedjaa.Fly
