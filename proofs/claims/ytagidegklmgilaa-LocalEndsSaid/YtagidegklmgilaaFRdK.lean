/- How an Ask reads. -/
import Derived.Test.YtagidegklmgilaaFlyT
import Derived.Test.YtagidegklmgilaaFlyR
namespace Go.Proofs.Ytagidegklmgilaa
open Go Go.RowKit Fly
set_option linter.unusedVariables false
set_option linter.unusedSimpArgs false


theorem pieces4 {α : Type} {cs : List α} {a b c d : α} (hl : cs.length = 4) (h0 : (cs.drop 0).take 1 = [a]) (h1 : (cs.drop 1).take 1 = [b]) (h2 : (cs.drop 2).take 1 = [c]) (h3 : (cs.drop 3).take 1 = [d]) : cs = [a, b, c, d] := by
  match cs, hl with
  | [x, y, z, u], _ => simp at h0 h1 h2 h3; subst h0; subst h1; subst h2; subst h3; rfl
/-- Four fields of one cell each. -/
theorem reads4 {H : Type} {enc : TypeId × Value → H} {P : Program} {w : World} {t : TypeId} {f0 f1 f2 f3 : Field} (ht : P.underlying t = some (.struct #[f0, f1, f2, f3])) (hC : P.cellsOf t = 4) (h0 : f0.offset = 0 ∧ P.cellsOf f0.type = 1) (h1 : f1.offset = 1 ∧ P.cellsOf f1.type = 1) (h2 : f2.offset = 2 ∧ P.cellsOf f2.type = 1) (h3 : f3.offset = 3 ∧ P.cellsOf f3.type = 1)
    {α β γ δ : Type} {ca : α → Value} {cb : β → Value} {cc : γ → Value} {cd : δ → Value} {A : α → Prop} {B : β → Prop} {C : γ → Prop} {D : δ → Prop}
    (ra : Reads enc P w f0.type (fun x => [ca x]) A) (rb : Reads enc P w f1.type (fun x => [cb x]) B) (rc : Reads enc P w f2.type (fun x => [cc x]) C) (rd : Reads enc P w f3.type (fun x => [cd x]) D) :
    Reads enc P w t (fun x : α × β × γ × δ => [ca x.1, cb x.2.1, cc x.2.2.1, cd x.2.2.2]) (fun x => A x.1 ∧ B x.2.1 ∧ C x.2.2.1 ∧ D x.2.2.2) := fun fuel cs y h => by
  obtain ⟨xs, n, _, _, hl, hlen, hf⟩ := DataW.trod_struct ht h
  have hx : ∀ i, i < 4 → ∃ z, xs[i]? = some z := fun i hi => ⟨_, List.getElem?_eq_getElem (by rw [hlen]; exact hi)⟩
  obtain ⟨z0, e0⟩ := hx 0 (by decide)
  obtain ⟨z1, e1⟩ := hx 1 (by decide)
  obtain ⟨z2, e2⟩ := hx 2 (by decide)
  obtain ⟨z3, e3⟩ := hx 3 (by decide)
  have g0 := hf 0 f0 rfl
  have g1 := hf 1 f1 rfl
  have g2 := hf 2 f2 rfl
  have g3 := hf 3 f3 rfl
  rw [h0.1, h0.2, e0] at g0
  rw [h1.1, h1.2, e1] at g1
  rw [h2.1, h2.2, e2] at g2
  rw [h3.1, h3.2, e3] at g3
  obtain ⟨x0, p0, a0⟩ := ra _ _ _ g0
  obtain ⟨x1, p1, a1⟩ := rb _ _ _ g1
  obtain ⟨x2, p2, a2⟩ := rc _ _ _ g2
  obtain ⟨x3, p3, a3⟩ := rd _ _ _ g3
  exact ⟨(x0, x1, x2, x3), pieces4 (hl.trans hC) p0 p1 p2 p3, a0, a1, a2, a3⟩

theorem rdAsk {H : Type} {enc : TypeId × Value → H} (W : World) : Reads enc Try.prog W 27 (fun x : Int × Int × Int × Int => [.int .i64 x.1, .int .i64 x.2.1, .int .i64 x.2.2.1, .int .i64 x.2.2.2]) (fun x => I64 x.1 ∧ I64 x.2.1 ∧ I64 x.2.2.1 ∧ I64 x.2.2.2) :=
  reads4 (ca := fun n => .int .i64 n) (cb := fun n => .int .i64 n) (cc := fun n => .int .i64 n) (cd := fun n => .int .i64 n) Try.underlying27 (by kernel_rfl) ⟨rfl, by kernel_rfl⟩ ⟨rfl, by kernel_rfl⟩ ⟨rfl, by kernel_rfl⟩ ⟨rfl, by kernel_rfl⟩
    (reads_i64 Try.underlying3) (reads_i64 Try.underlying3) (reads_i64 Try.underlying3) (reads_i64 Try.underlying3)

end Go.Proofs.Ytagidegklmgilaa
