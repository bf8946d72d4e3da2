/- How an act of a net reads. -/
import Derived.Test.YtbkneamjpiiepaaFlyT
import Derived.Test.YtbkneamjpiiepaaFlyR
namespace Go.Proofs.Ytbkneamjpiiepaa
open Go Go.RowKit Fly
set_option linter.unusedVariables false
set_option linter.unusedSimpArgs false


structure NAct where
  kind : Int
  fr : Int
  dst : Int
  k : Int
  body : ByteArray
def nactCs (a : NAct) : List Value := [.int .i64 a.kind, .int .i64 a.fr, .int .i64 a.dst, .int .i64 a.k, .string a.body]
theorem nactCs_len (a : NAct) : (nactCs a).length = 5 := rfl
def NActOk (a : NAct) : Prop := I64 a.kind ∧ I64 a.fr ∧ I64 a.dst ∧ I64 a.k
theorem pieces5 {α : Type} {cs : List α} {a b c d e : α} (hl : cs.length = 5) (h0 : (cs.drop 0).take 1 = [a]) (h1 : (cs.drop 1).take 1 = [b]) (h2 : (cs.drop 2).take 1 = [c]) (h3 : (cs.drop 3).take 1 = [d]) (h4 : (cs.drop 4).take 1 = [e]) : cs = [a, b, c, d, e] := by
  match cs, hl with
  | [x, y, z, u, v], _ => simp at h0 h1 h2 h3 h4; subst h0; subst h1; subst h2; subst h3; subst h4; rfl
/-- Five fields of one cell each. -/
theorem reads5 {H : Type} {enc : TypeId × Value → H} {P : Program} {w : World} {t : TypeId} {f0 f1 f2 f3 f4 : Field} (ht : P.underlying t = some (.struct #[f0, f1, f2, f3, f4])) (hC : P.cellsOf t = 5) (h0 : f0.offset = 0 ∧ P.cellsOf f0.type = 1) (h1 : f1.offset = 1 ∧ P.cellsOf f1.type = 1) (h2 : f2.offset = 2 ∧ P.cellsOf f2.type = 1) (h3 : f3.offset = 3 ∧ P.cellsOf f3.type = 1) (h4 : f4.offset = 4 ∧ P.cellsOf f4.type = 1)
    {α β γ δ ε : Type} {ca : α → Value} {cb : β → Value} {cc : γ → Value} {cd : δ → Value} {ce : ε → Value} {A : α → Prop} {B : β → Prop} {C : γ → Prop} {D : δ → Prop} {E : ε → Prop}
    (ra : Reads enc P w f0.type (fun x => [ca x]) A) (rb : Reads enc P w f1.type (fun x => [cb x]) B) (rc : Reads enc P w f2.type (fun x => [cc x]) C) (rd : Reads enc P w f3.type (fun x => [cd x]) D) (re : Reads enc P w f4.type (fun x => [ce x]) E) :
    ∀ fuel cs y, DataW.trod enc P w 0 (fun _ => true) true fuel t cs = some y → ∃ a b c d e, cs = [ca a, cb b, cc c, cd d, ce e] ∧ A a ∧ B b ∧ C c ∧ D d ∧ E e := fun fuel cs y h => by
  obtain ⟨xs, n, _, _, hl, hlen, hf⟩ := DataW.trod_struct ht h
  have hx : ∀ i, i < 5 → ∃ z, xs[i]? = some z := fun i hi => ⟨_, List.getElem?_eq_getElem (by rw [hlen]; exact hi)⟩
  obtain ⟨z0, e0⟩ := hx 0 (by decide)
  obtain ⟨z1, e1⟩ := hx 1 (by decide)
  obtain ⟨z2, e2⟩ := hx 2 (by decide)
  obtain ⟨z3, e3⟩ := hx 3 (by decide)
  obtain ⟨z4, e4⟩ := hx 4 (by decide)
  have g0 := hf 0 f0 rfl
  have g1 := hf 1 f1 rfl
  have g2 := hf 2 f2 rfl
  have g3 := hf 3 f3 rfl
  have g4 := hf 4 f4 rfl
  rw [h0.1, h0.2, e0] at g0
  rw [h1.1, h1.2, e1] at g1
  rw [h2.1, h2.2, e2] at g2
  rw [h3.1, h3.2, e3] at g3
  rw [h4.1, h4.2, e4] at g4
  obtain ⟨x0, p0, a0⟩ := ra _ _ _ g0
  obtain ⟨x1, p1, a1⟩ := rb _ _ _ g1
  obtain ⟨x2, p2, a2⟩ := rc _ _ _ g2
  obtain ⟨x3, p3, a3⟩ := rd _ _ _ g3
  obtain ⟨x4, p4, a4⟩ := re _ _ _ g4
  exact ⟨x0, x1, x2, x3, x4, pieces5 (hl.trans hC) p0 p1 p2 p3 p4, a0, a1, a2, a3, a4⟩
theorem rdNAct {H : Type} {enc : TypeId × Value → H} (W : World) : Reads enc Try.prog W 45 nactCs NActOk := fun fuel cs y h => by
  obtain ⟨a, b, c, d, e, rfl, h0, h1, h2, h3, _⟩ := reads5 (ca := fun n => .int .i64 n) (cb := fun n => .int .i64 n) (cc := fun n => .int .i64 n) (cd := fun n => .int .i64 n) (ce := fun s => .string s) Try.underlying45 (by kernel_rfl) ⟨rfl, by kernel_rfl⟩ ⟨rfl, by kernel_rfl⟩ ⟨rfl, by kernel_rfl⟩ ⟨rfl, by kernel_rfl⟩ ⟨rfl, by kernel_rfl⟩
    (reads_i64 Try.underlying3) (reads_i64 Try.underlying3) (reads_i64 Try.underlying3) (reads_i64 Try.underlying3) (reads_string Try.underlying9) fuel cs y h
  exact ⟨⟨a, b, c, d, e⟩, rfl, h0, h1, h2, h3⟩

end Go.Proofs.Ytbkneamjpiiepaa
