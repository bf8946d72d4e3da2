/- Parts of slices, and what writes over them, for the small program logic. -/
import Derived.Test.YtkmkakpadgljeaaGreatFlyMem

namespace Go.Proofs.YtkmkakpadgljeaaGreat.Fly
open Go Go.RowKit
set_option linter.unusedVariables false
set_option linter.unusedSimpArgs false

def optv (env : Env) : Option Operand → Option (Option Value)
  | none => some none
  | some x => (ev env x).map some
/-- A bound of a slice expression, or what stands for none. -/
def Bd (v : Option Value) (dflt n : Nat) : Prop := (v = none ∧ n = dflt) ∨ ∃ k i, v = some (.int k i) ∧ i = (n : Int)

theorem run_bounds {P : Program} {vl vh vm : Option Value} {len cap l h m : Nat} (bl : Bd vl 0 l) (bh : Bd vh len h) (bm : Bd vm cap m) (hle : l ≤ h ∧ h ≤ m ∧ m ≤ cap) (hs : vm.isSome = true → vh.isSome = true) (w : World) :
    (Instr.sliceBounds true len cap vl vh vm).run P w = .ok (l, h, m) w := by
  obtain ⟨h1, h2, h3⟩ := hle
  have hb : ∀ (k : IntKind) (i y : Nat) (c : BoundsCode), i ≤ y → (Instr.sliceBound (.int k i) y c).run P w = .ok i w := fun k i y c h => by
    simp [Instr.sliceBound, asIntOf, h]
  rcases bm with ⟨rfl, rfl⟩ | ⟨km, im, rfl, rfl⟩
  · rcases bh with ⟨rfl, rfl⟩ | ⟨kh, ih, rfl, rfl⟩ <;> rcases bl with ⟨rfl, rfl⟩ | ⟨kl, il, rfl, rfl⟩ <;> simp [Instr.sliceBounds, hb, h1, h2, h3]
  · rcases bh with ⟨rfl, rfl⟩ | ⟨kh, ih, rfl, rfl⟩
    · simp at hs
    · rcases bl with ⟨rfl, rfl⟩ | ⟨kl, il, rfl, rfl⟩ <;> simp [Instr.sliceBounds, hb, h1, h2, h3]

section
variable {P : Program} {n : Nat} {S : Nat → Prop} {w0 : World} {env : Env} {segs segs' : List Seg} {K : Value → List Seg → Prop} {d : Option Tmp} {ty : TypeId} {pos : String} {af : Array Edge} {g : Option (Nat × Bool)}

theorem En.opt {a : Act} (h : En n env a) {o : Option Operand} {v : Option Value} (hv : optv env o = some v) : o.map a.eval = v := by
  cases o with
  | none => simp [optv] at hv; simp [hv]
  | some x =>
    simp only [optv, Option.map_eq_some_iff] at hv
    obtain ⟨u, hu, rfl⟩ := hv
    simp [h.eval hu]

theorem o_slice {T E sz : Nat} {x : Operand} {lo hi mx : Option Operand} {vl vh vm : Option Value} {A : Option Addr} {len cap : Nat} (hT : SlT P T E sz) (hx : ev env x = some (.slice A len cap)) (hl : optv env lo = some vl) (hh : optv env hi = some vh) (hm : optv env mx = some vm)
    (hs : vm.isSome = true → vh.isSome = true) (l h m : Nat) (bl : Bd vl 0 l) (bh : Bd vh len h) (bm : Bd vm cap m) (hle : l ≤ h ∧ h ≤ m ∧ m ≤ cap) (v : Value) (hv : .slice (if m = l then A else A.map (·.add (l * sz))) (h - l) (m - l) = v) :
    Pure P n S w0 env segs ⟨d, .slice T x lo hi mx, ty, pos, af, g⟩ v :=
  fun a w ha _ => by
    subst hv
    simp only [execOp, Instr.sliceAt, Sem.run_bind, hT.und, Result.andThen_ok, Instr.slice, ha.eval hx, ha.opt hl, ha.opt hh, ha.opt hm, run_bounds bl bh bm hle hs, hT.size, Sem.run_pure]

/-- append to a slice that is owned and has room: in place. -/
theorem o_appendR {T E sz bytes : Nat} {z : List Value} {s x : Operand} {len cap b0 m b off c : Nat} {cs ys sp : List Value} (hT : ElT P T E sz bytes z) (hs : ev env s = some (.slice (some ⟨b0, 0, none⟩) len cap)) (hx : ev env x = some (.slice (some ⟨b, off, none⟩) m c))
    {f : Seg → List Seg} [hA : At segs b0 (blk (cs ++ sp) E) f] (hcs : cs.length = len * sz) (hsp : sp.length = (cap - len) * sz) (hr : Rds S w0 segs b off ys) (hy : ys.length = m * sz) (hone : ys.all (·.oneCell') = true) (hroom : len + m ≤ cap)
    (k : K (.slice (some ⟨b0, 0, none⟩) (len + m) cap) (f [(b0, blk (cs ++ (ys ++ sp.drop ys.length)) E)])) : Does P n S w0 env segs ⟨d, .call ⟨.builtin .append, #[s, x], #[T, T]⟩, ty, pos, af, g⟩ K :=
  does_of fun a w ha hp => by
    obtain ⟨i, u, hi, hz, hcz, rfl, rfl⟩ := hT.i
    have hcells : ∀ j v, ys[j]? = some v → w.cell? ((⟨b, off, none⟩ : Addr).add j) = some v := fun j v hj => by rw [add_at]; exact hr.cells hp j v hj
    have hone' : ∀ u ∈ ys, u.oneCell' = true := by simpa using hone
    obtain ⟨L, R, e1, e2⟩ := hA.flat
    have hcur := hp.own b0 _ hA.mem
    have hspl : ys.length ≤ sp.length := by rw [hy, hsp]; exact Nat.mul_le_mul_right _ (by omega)
    have hrun := run_append_room (P := P) w T ty E i hT.und hi b0 len cap (cs ++ sp).toArray hcur ⟨b, off, none⟩ m c ys hy hcells hone' hroom (by rw [List.size_toArray, List.length_append, hcs]; omega)
    refine ⟨_, _, w.setRow b0 ((cs ++ sp).toArray.toList.take (len * i.size) ++ ys ++ (cs ++ sp).toArray.toList.drop (len * i.size + ys.length)).toArray, .inl ?_, ?_, k⟩
    · simp [execOp, resolve, invoke, builtin, ha.eval hs, ha.eval hx, hrun]
    · have hl : ((cs ++ sp).toArray.toList.take (len * i.size) ++ ys ++ (cs ++ sp).toArray.toList.drop (len * i.size + ys.length)) = cs ++ (ys ++ sp.drop ys.length) := by
        rw [← hcs]
        simp [List.drop_append]
      rw [hl, e2]
      rw [e1] at hp
      have hb := hp.own b0 (blk (cs ++ sp) E) (by simp)
      exact hp.put rfl rfl rfl (by simp [World.setRow]) (Nat.le_refl _) (setRow_heap w b0 _ (cs ++ (ys ++ sp.drop ys.length)).toArray E (0, 0) hb) (fun k hk => setRow_other w b0 k _ hk)

theorem zeroCells_flat (z : List Value) (n : Nat) (h : 0 < z.length) : (Builtin.zeroCells z.toArray n).toList = (List.replicate n z).flatten := by
  have := madeCells_flat z n h
  have e : Builtin.zeroCells z.toArray n = madeCells z.toArray (n * z.length) := by simp [Builtin.zeroCells, madeCells]
  rw [e, this]

/-- clear: all of a slice in a block that is known made zero. -/
theorem o_clear {T E sz bytes : Nat} {z : List Value} {x : Operand} {b off m c : Nat} {cs : List Value} {f : Seg → List Seg} (hT : ElT P T E sz bytes z) (hx : ev env x = some (.slice (some ⟨b, off, none⟩) m c)) [hA : At segs b (blk cs E) f]
    (hone : z.all (·.oneCell') = true) (hi : off + m * sz ≤ cs.length) (cs' : List Value) (he : setMany cs off (List.replicate m z).flatten = cs') (k : K (.tuple #[]) (f [(b, blk cs' E)])) :
    Does P n S w0 env segs ⟨d, .call ⟨.builtin .clear, #[x], #[T]⟩, ty, pos, af, g⟩ K :=
  does_of fun a w ha hp => by
    subst he
    obtain ⟨i, u, hi', hz, hcz, rfl, rfl⟩ := hT.i
    obtain ⟨l, r, e1, e2⟩ := hA.flat
    by_cases hm : m = 0
    · subst hm
      refine ⟨.tuple #[], _, w, .inl ?_, by rw [e2]; rw [e1] at hp; simpa [setMany] using hp, k⟩
      simp [execOp, resolve, invoke, builtin, Builtin.clear_, ha.eval hx, run_underlying hT.und]
    · have hlen : (List.replicate m z).flatten.length = m * i.size := by simp [hT.len]
      obtain ⟨w', hr, hp'⟩ := run_storeCells (P := P) (i := off) (List.replicate m z).flatten cs 0 w (e1 ▸ hp) (fun v hv => by
        obtain ⟨l', hl', hv'⟩ := List.mem_flatten.1 hv
        have := (List.mem_replicate.1 hl').2
        subst this
        exact (List.all_eq_true.1 hone) v hv') (by rw [hlen]; omega)
      refine ⟨.tuple #[], _, w', .inl ?_, by rw [e2]; exact hp', k⟩
      obtain ⟨q, rfl⟩ : ∃ q, m = q + 1 := ⟨m - 1, by omega⟩
      simp only [execOp, resolve, invoke, builtin, Builtin.clear_, ha.eval hx, Sem.run_bind, Sem.run_pure, Result.andThen_ok, List.map_toArray, List.map_cons, List.map_nil, List.getElem?_toArray, List.getElem?_cons_zero, run_underlying hT.und,
        zeroValue, typeInfo, run_program, hi', hz, hcz, zeroCells_flat z (q + 1) (by rw [hT.len]; exact hT.pos), hr]

/-- A slice of no element, written out. -/
theorem o_slice0 {T E sz bytes : Nat} {z : List Value} (hT : ElT P T E sz bytes z) (k : ∀ b, K (.slice (some ⟨b, 0, none⟩) 0 0) ([(b, blk [] E)] :: segs)) : Does P n S w0 env segs ⟨d, .buildSlice T 0 #[], ty, pos, af, g⟩ K :=
  does_of fun a w ha hp => by
    obtain ⟨i, u, hi, hz, hcz, rfl, rfl⟩ := hT.i
    refine ⟨_, _, w.alloc (blk [] E), .inl ?_, by simpa using hp.alloc (blk [] E), k w.heap.size⟩
    have e : Array.map (fun x => (default : Value)) (Array.range 0) = #[] := by apply Array.eq_empty_of_size_eq_zero; simp
    simp [execOp, Instr.buildSlice, run_underlying hT.und, sizeOf, typeInfo, hi, Instr.fill, newRow, e]
/-- What a slice that is read shows: nil and nothing, or an array. -/
def Seen (S : Nat → Prop) (w : World) (A : Option Addr) (cs : List Value) : Prop := (A = none ∧ cs = []) ∨ ∃ b off, A = some ⟨b, off, none⟩ ∧ (cs ≠ [] → S b ∧ CellsAre w b off cs)
theorem Seen.rds {S : Nat → Prop} {w0 : World} {segs : List Seg} {b off : Nat} {cs : List Value} (h : cs ≠ [] → S b ∧ CellsAre w0 b off cs) : Rds S w0 segs b off cs :=
  rds_of _ _ fun j v hj => have hne : cs ≠ [] := fun e => by subst e; simp at hj
    rdS (h hne).1 ((h hne).2 j v hj)
theorem Own.seen {S : Nat → Prop} {w0 w : World} {segs out : List Seg} {E sz len len' cap : Nat} {A : Option Addr} {cs : List Value} {m : Seg} (h : Own E sz (.slice A len' cap) len cs m) (hp : Hp S w0 segs.flatten w) [p : Pick segs m out] : Seen (Fr w []) w A cs := by
  rcases h.2 with ⟨e, h0, _⟩ | ⟨b, c, sp, e, hm, _⟩
  · cases e; exact .inl ⟨rfl, List.eq_nil_of_length_eq_zero (by rw [h.1, h0]; simp)⟩
  · cases e
    refine .inr ⟨b, 0, rfl, fun _ => ?_⟩
    have hmem : (b, blk (cs ++ sp) E) ∈ segs.flatten := p.perm.mem_iff.2 (by rw [hm]; simp)
    refine ⟨⟨hp.key_lt hmem, by simp⟩, fun j v hj => ?_⟩
    rw [hp.cell hmem]; simp only [Nat.zero_add]; exact app_get hj
/-- The slots that are known, spelled out. -/
theorem f_envC {Q : Exit → Act → World → Prop} {e : Env} {c : Code} (he : Has env e) (h : Wc P n S w0 Q e segs c) : Wc P n S w0 Q env segs c :=
  fun a w ha hp => h a w (by have := ha.has ha.nil he; rwa [List.append_nil] at this) hp
theorem f_cellsC {Q : Exit → Act → World → Prop} (b : Nat) {cs : List Value} {E : TypeId} {f : Seg → List Seg} {c : Code} (cs' : List Value) [hA : At segs b (blk cs E) f] (e : cs = cs') (h : Wc P n S w0 Q env (f [(b, blk cs' E)]) c) : Wc P n S w0 Q env segs c :=
  fun a w ha hp => h a w ha (hp.respell e)
end

/-- What is left of a list that was moved up by one, and its last place cleared. -/
theorem moved_up (A B C sp : List Value) (x : Value) (h : C.length = B.length + 1) : (A ++ (B ++ (C ++ sp).drop B.length)).set (A.length + B.length) x = (A ++ B) ++ x :: sp := by
  have h1 : (C ++ sp).drop B.length = C.drop B.length ++ sp := List.drop_append_of_le_length (by omega)
  obtain ⟨c, hc⟩ : ∃ c, C.drop B.length = [c] := List.length_eq_one_iff.1 (by simp [h])
  rw [h1, hc, ← List.append_assoc, ← List.length_append, List.set_append_right _ _ (Nat.le_refl _)]
  simp
end Go.Proofs.YtkmkakpadgljeaaGreat.Fly
