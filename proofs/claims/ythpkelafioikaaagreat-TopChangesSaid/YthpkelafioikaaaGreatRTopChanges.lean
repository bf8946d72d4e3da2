/- flyovertop.TopChanges: for every input that may be read the law answers true, and the arguments read as they did. No condition. -/
import Derived.Test.YthpkelafioikaaaGreatRows
import Derived.Test.YthpkelafioikaaaGreatAll15
import Derived.Test.YthpkelafioikaaaGreatFlyR
import Derived.WalkKit
namespace Go.Proofs.YthpkelafioikaaaGreat.topChanges
open Go Go.RowKit Go.ChangeShapes Go.WideShapes Go.ChangeAt Fly
set_option linter.unusedVariables false
set_option linter.unusedSimpArgs false

theorem own : ownKnob Tryz.prog.godebug = none := by kernel_rfl
theorem laidOut : laidOutB Tryz.prog = true := by kernel_rfl
set_option maxRecDepth 100000 in
theorem contract (H : Type) (enc : TypeId × Value → H) (W : World) (base : Nat) (args : Array Value) (ds gs : List (DataW H)) (before : List MemPlace)
    (hval : ∀ (j : Nat) t v, Tryz.f4.params[j]? = some t → args[j]? = some v → Value.okWide Tryz.prog W .any base t v)
    (hW : DataW.Whole enc Tryz.prog Tryz.f4.params.toList Rows.topChangesSpec.vars false W args.toList ds gs before) :
    Calls Tryz.prog 4 args W fun e W' => ∃ v, e = .returned v ∧ Rows.topChangesSpec.post enc Tryz.prog Tryz.f4 false true false false W args v W' := by
  have hW' := hW
  obtain ⟨p, q, hA0, hV, rfl, hfz, hnd⟩ := hW
  have hA : DataW.TrodAll enc Tryz.prog W 0 (fun _ => true) true Tryz.f4.params.toList args.toList ds p := hA0
  rw [Tryz.params4] at hA hval
  obtain ⟨v0, vs0, d0, ds0, p0, q0, hargs, rfl, rfl, h0, r0⟩ := trodAll_cons hA
  obtain ⟨v1, vs1, d1, ds1, p1, q1, rfl, rfl, rfl, h1, r1⟩ := trodAll_cons r0
  obtain ⟨v2, vs2, d2, ds2, p2, q2, rfl, rfl, rfl, h2, r2⟩ := trodAll_cons r1
  obtain ⟨rfl, rfl, rfl⟩ := trodAll_nil r2
  obtain rfl : args = #[v0, v1, v2] := by cases args; simp_all
  obtain ⟨rfl, rfl⟩ := trodVars_none hV
  obtain ⟨⟨N0, A0, l0, cap0⟩, rfl, g0⟩ := arg_struct Tryz.underlying24 (hval 0 24 v0 rfl rfl) h0 (rdGraph W)
  obtain ⟨⟨⟨B1, bs1, bc1⟩, ⟨C1, cs1, cc1⟩, mv1⟩, rfl, g1⟩ := arg_struct Tryz.underlying27 (hval 1 27 v1 rfl rfl) h1 (rdDraw W)
  obtain ⟨⟨A2, l2, cap2⟩, rfl, g2⟩ := arg_sliceOf (cells := mF) (sz := 2) Tryz.underlying50 (by kernel_rfl) lK (by omega) (rdChg W) (hval 2 50 v2 rfl rfl) h2
  try dsimp only at g0
  try dsimp only at g1
  try dsimp only at g2
  clear hA0
  refine (law_ends (TopChanges_spec N0 A0 l0 cap0 B1 bs1 bc1 C1 cs1 cc1 mv1 A2 l2 cap2 W g0.arcs.ro (Nat.le_trans g0.arcs.le g0.arcs.max) g0.n g0.arcs.ok (fun e => by exact congrArg List.length (g0.arcs.nil e).1) (by have := g1.1.ro; rwa [flat_one] at this) ⟨g1.1.le, g1.1.max⟩ (by have := g1.2.1.ro; rwa [flat_one] at this) (Nat.le_trans g1.2.1.le g1.2.1.max) g2.ro g2.ok)).mono fun e W' ⟨he, bel⟩ => ?_
  subst he
  exact ⟨_, rfl, _, _, _, [], _, [], hW', trodAll_mk1 (shut_bool Tryz.underlying4 _), (trodAll_cons_mk (Below.trod laidOut (by kernel_rfl) (of_decide_eq_true (by kernel_rfl)) h0 bel (trod_places h0)) (trodAll_cons_mk (Below.trod laidOut (by kernel_rfl) (of_decide_eq_true (by kernel_rfl)) h1 bel (trod_places h1)) (trodAll_cons_mk (Below.trod laidOut (by kernel_rfl) (of_decide_eq_true (by kernel_rfl)) h2 bel (trod_places h2)) trodAll_mk0))), rfl, bel.frame _, fun h => by cases h⟩
set_option maxRecDepth 100000 in
theorem lifted (os : Os) (started : os.Started) (H : Type) (enc : TypeId × Value → H) :
    ReturnsInHanded {} Tryz.checked os 4 .any (Rows.topChangesSpec.pre6 enc Tryz.prog Tryz.f4 Rows.topChangesRow.domain false) (Rows.topChangesSpec.post enc Tryz.prog Tryz.f4 false true false false) := by
  refine returnsInHanded_of_change_sized (C := Tryz.checked) own started (by kernel_rfl) Tryz.func4
    (ChangeSpec.witness6 (enc := enc) (C := Tryz.checked) false ⟨#[], #[.agg #[.int .i64 0, .slice none 0 0], .agg #[.slice none 0 0, .slice none 0 0, .int .i64 0], .slice none 0 0], []⟩ 8 (by kernel_rfl) (by kernel_rfl) (by kernel_rfl) (by kernel_rfl)) ?_
  intro W base args ds gs before hval hW hcnd hsz _
  exact contract H enc W base args ds gs before hval hW
theorem over : Rows.topChangesRow.holds Tryz.pinned (OpenSpec.ofChange Rows.topChangesSpec) :=
  OpenClaim.holds_of_wide 4 Tryz.f4 rfl rfl rfl rfl rfl rfl rfl ⟨rfl, rfl, rfl, rfl, rfl⟩ rfl rfl rfl rfl rfl (by kernel_rfl) Tryz.func4 (by kernel_rfl)
    (of_decide_eq_true (by kernel_rfl)) (by unfold Func.isWrapper; first | (rw [if_pos (by decide +kernel)]; kernel_rfl) | (rw [if_neg (by decide +kernel)]; exact ⟨rfl, rfl⟩))
    (fun os started H enc _ => lifted os started H enc)
end Go.Proofs.YthpkelafioikaaaGreat.topChanges
namespace Go.Proofs.YthpkelafioikaaaGreat
theorem topChanges_holds : Rows.TopChangesSaid := topChanges.over
end Go.Proofs.YthpkelafioikaaaGreat
