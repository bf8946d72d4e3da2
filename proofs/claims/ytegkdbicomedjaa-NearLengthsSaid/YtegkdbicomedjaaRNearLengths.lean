/- flyoverlaw05.NearLengths: for every input that may be read the law answers true, and the arguments read as they did. No condition. -/
import Derived.Test.YtegkdbicomedjaaRows
import Derived.Test.YtegkdbicomedjaaFLen5
import Derived.Test.YtegkdbicomedjaaFRd3
import Derived.Test.YtegkdbicomedjaaFRdG
import Derived.Test.YtegkdbicomedjaaFlyR
import Derived.WalkKit
namespace Go.Proofs.Ytegkdbicomedjaa.nearLengths
open Go Go.RowKit Go.ChangeShapes Go.WideShapes Go.ChangeAt Fly
set_option linter.unusedVariables false
set_option linter.unusedSimpArgs false

theorem own : ownKnob Try.prog.godebug = none := by kernel_rfl
theorem laidOut : laidOutB Try.prog = true := by kernel_rfl
set_option maxRecDepth 100000 in
theorem contract (H : Type) (enc : TypeId × Value → H) (W : World) (base : Nat) (args : Array Value) (ds gs : List (DataW H)) (before : List MemPlace)
    (hval : ∀ (j : Nat) t v, Try.f9.params[j]? = some t → args[j]? = some v → Value.okWide Try.prog W .any base t v)
    (hW : DataW.Whole enc Try.prog Try.f9.params.toList Rows.nearLengthsSpec.vars false W args.toList ds gs before) (hsz : (DataW.weightsEach Try.prog (Try.f9.params.toList ++ Rows.nearLengthsSpec.plain.varTypes Try.prog) (ds ++ gs)).all (· ≤ reachBytes) = true) :
    Calls Try.prog 9 args W fun e W' => ∃ v, e = .returned v ∧ Rows.nearLengthsSpec.post enc Try.prog Try.f9 false true false false W args v W' := by
  have hW' := hW
  obtain ⟨p, q, hA0, hV, rfl, hfz, hnd⟩ := hW
  have hA : DataW.TrodAll enc Try.prog W 0 (fun _ => true) true Try.f9.params.toList args.toList ds p := hA0
  rw [Try.params9] at hA hval
  obtain ⟨v0, vs0, d0, ds0, p0, q0, hargs, rfl, rfl, h0, r0⟩ := trodAll_cons hA
  obtain ⟨v1, vs1, d1, ds1, p1, q1, rfl, rfl, rfl, h1, r1⟩ := trodAll_cons r0
  obtain ⟨rfl, rfl, rfl⟩ := trodAll_nil r1
  obtain rfl : args = #[v0, v1] := by cases args; simp_all
  obtain ⟨rfl, rfl⟩ := trodVars_none hV
  obtain ⟨⟨N0, A0, l0, cap0⟩, rfl, g0⟩ := arg_struct Try.underlying24 (hval 0 24 v0 rfl rfl) h0 (rdGraph W)
  obtain ⟨⟨s1, t1, A1, l1, cap1⟩, rfl, g1⟩ := arg_struct Try.underlying53 (hval 1 53 v1 rfl rfl) h1 (rdGiven W)
  try dsimp only at g0
  try dsimp only at g1
  have z0 := arg_room2 Try.underlying24 ⟨rfl, by kernel_rfl⟩ Try.underlying22 h0 hsz (j := 0) (by rw [Try.params9]; rfl) rfl
  try dsimp only at z0
  have z1 := arg_room3 Try.underlying53 ⟨rfl, by kernel_rfl⟩ Try.underlying28 h1 hsz (j := 1) (by rw [Try.params9]; rfl) rfl
  try dsimp only at z1
  clear hA0
  refine (law_ends (NearLengths_spec N0 A0 l0 cap0 s1 t1 A1 l1 cap1 W g0.arcs.ro (Nat.le_trans g0.arcs.le g0.arcs.max) g0.n g0.arcs.ok (by have := g1.2.2.ro; rwa [flat_one] at this) (by rw [bytesArc] at z0; have := g0.arcs.le; omega) (by rw [bytesInt] at z1; have := g1.2.2.le; omega))).mono fun e W' ⟨he, bel⟩ => ?_
  subst he
  exact ⟨_, rfl, _, _, _, [], _, [], hW', trodAll_mk1 (shut_bool Try.underlying4 _), (trodAll_cons_mk (Below.trod laidOut (by kernel_rfl) (of_decide_eq_true (by kernel_rfl)) h0 bel (trod_places h0)) (trodAll_cons_mk (Below.trod laidOut (by kernel_rfl) (of_decide_eq_true (by kernel_rfl)) h1 bel (trod_places h1)) trodAll_mk0)), rfl, bel.frame _, fun h => by cases h⟩
set_option maxRecDepth 100000 in
theorem lifted (os : Os) (started : os.Started) (H : Type) (enc : TypeId × Value → H) :
    ReturnsInHanded {} Try.checked os 9 .any (Rows.nearLengthsSpec.pre6 enc Try.prog Try.f9 Rows.nearLengthsRow.domain false) (Rows.nearLengthsSpec.post enc Try.prog Try.f9 false true false false) := by
  refine returnsInHanded_of_change_sized (C := Try.checked) own started (by kernel_rfl) Try.func9
    (ChangeSpec.witness6 (enc := enc) (C := Try.checked) false ⟨#[], #[.agg #[.int .i64 0, .slice none 0 0], .agg #[.int .i64 0, .int .i64 0, .slice none 0 0]], []⟩ 8 (by kernel_rfl) (by kernel_rfl) (by kernel_rfl) (by kernel_rfl)) ?_
  intro W base args ds gs before hval hW hcnd hsz _
  exact contract H enc W base args ds gs before hval hW hsz
theorem over : Rows.nearLengthsRow.holds Try.pinned (OpenSpec.ofChange Rows.nearLengthsSpec) :=
  OpenClaim.holds_of_wide 9 Try.f9 rfl rfl rfl rfl rfl rfl rfl ⟨rfl, rfl, rfl, rfl, rfl⟩ rfl rfl rfl rfl rfl (by kernel_rfl) Try.func9 (by kernel_rfl)
    (of_decide_eq_true (by kernel_rfl)) (by unfold Func.isWrapper; first | (rw [if_pos (by decide +kernel)]; kernel_rfl) | (rw [if_neg (by decide +kernel)]; exact ⟨rfl, rfl⟩))
    (fun os started H enc _ => lifted os started H enc)
end Go.Proofs.Ytegkdbicomedjaa.nearLengths
namespace Go.Proofs.Ytegkdbicomedjaa
theorem nearLengths_holds : Rows.NearLengthsSaid := nearLengths.over
end Go.Proofs.Ytegkdbicomedjaa
