/- flyoverlaw11.NestPartition: for every input that may be read the law answers true, and the arguments read as they did. No condition. -/
import Derived.Test.YtjjogcnjcnpehaaGreatRows
import Derived.Test.YtjjogcnjcnpehaaGreatAll16
import Derived.Test.YtjjogcnjcnpehaaGreatFlyR
import Derived.WalkKit
namespace Go.Proofs.YtjjogcnjcnpehaaGreat.nestPartition
open Go Go.RowKit Go.ChangeShapes Go.WideShapes Go.ChangeAt Fly
set_option linter.unusedVariables false
set_option linter.unusedSimpArgs false

theorem own : ownKnob Tryz.prog.godebug = none := by kernel_rfl
theorem laidOut : laidOutB Tryz.prog = true := by kernel_rfl
set_option maxRecDepth 100000 in
theorem contract (H : Type) (enc : TypeId × Value → H) (W : World) (base : Nat) (args : Array Value) (ds gs : List (DataW H)) (before : List MemPlace)
    (hval : ∀ (j : Nat) t v, Tryz.f5.params[j]? = some t → args[j]? = some v → Value.okWide Tryz.prog W .any base t v)
    (hW : DataW.Whole enc Tryz.prog Tryz.f5.params.toList Rows.nestPartitionSpec.vars false W args.toList ds gs before) :
    Calls Tryz.prog 5 args W fun e W' => ∃ v, e = .returned v ∧ Rows.nestPartitionSpec.post enc Tryz.prog Tryz.f5 false true false false W args v W' := by
  have hW' := hW
  obtain ⟨p, q, hA0, hV, rfl, hfz, hnd⟩ := hW
  have hA : DataW.TrodAll enc Tryz.prog W 0 (fun _ => true) true Tryz.f5.params.toList args.toList ds p := hA0
  rw [Tryz.params5] at hA hval
  obtain ⟨v0, vs0, d0, ds0, p0, q0, hargs, rfl, rfl, h0, r0⟩ := trodAll_cons hA
  obtain ⟨v1, vs1, d1, ds1, p1, q1, rfl, rfl, rfl, h1, r1⟩ := trodAll_cons r0
  obtain ⟨rfl, rfl, rfl⟩ := trodAll_nil r1
  obtain rfl : args = #[v0, v1] := by cases args; simp_all
  obtain ⟨rfl, rfl⟩ := trodVars_none hV
  obtain ⟨⟨N0, A0, l0, cap0⟩, rfl, g0⟩ := arg_struct Tryz.underlying24 (hval 0 24 v0 rfl rfl) h0 (rdGraph W)
  obtain ⟨⟨Ab1, bs1, cb1, Ac1, R1, cc1⟩, rfl, g1⟩ := arg_struct Tryz.underlying32 (hval 1 32 v1 rfl rfl) h1 (rdNest W)
  try dsimp only at g0
  try dsimp only at g1
  clear hA0
  refine (law_ends (NestPartition_spec N0 A0 l0 cap0 Ab1 bs1 cb1 Ac1 R1 cc1 W g0.arcs.ro (Nat.le_trans g0.arcs.le g0.arcs.max) g0.n g0.arcs.ok (nest_in g1))).mono fun e W' ⟨he, bel⟩ => ?_
  subst he
  exact ⟨_, rfl, _, _, _, [], _, [], hW', trodAll_mk1 (shut_bool Tryz.underlying4 _), (trodAll_cons_mk (Below.trod laidOut (by kernel_rfl) (of_decide_eq_true (by kernel_rfl)) h0 bel (trod_places h0)) (trodAll_cons_mk (Below.trod laidOut (by kernel_rfl) (of_decide_eq_true (by kernel_rfl)) h1 bel (trod_places h1)) trodAll_mk0)), rfl, bel.frame _, fun h => by cases h⟩
set_option maxRecDepth 100000 in
theorem lifted (os : Os) (started : os.Started) (H : Type) (enc : TypeId × Value → H) :
    ReturnsInHanded {} Tryz.checked os 5 .any (Rows.nestPartitionSpec.pre6 enc Tryz.prog Tryz.f5 Rows.nestPartitionRow.domain false) (Rows.nestPartitionSpec.post enc Tryz.prog Tryz.f5 false true false false) := by
  refine returnsInHanded_of_change_sized (C := Tryz.checked) own started (by kernel_rfl) Tryz.func5
    (ChangeSpec.witness6 (enc := enc) (C := Tryz.checked) false ⟨#[], #[.agg #[.int .i64 0, .slice none 0 0], .agg #[.slice none 0 0, .slice none 0 0]], []⟩ 8 (by kernel_rfl) (by kernel_rfl) (by kernel_rfl) (by kernel_rfl)) ?_
  intro W base args ds gs before hval hW hcnd hsz _
  exact contract H enc W base args ds gs before hval hW
theorem over : Rows.nestPartitionRow.holds Tryz.pinned (OpenSpec.ofChange Rows.nestPartitionSpec) :=
  OpenClaim.holds_of_wide 5 Tryz.f5 rfl rfl rfl rfl rfl rfl rfl ⟨rfl, rfl, rfl, rfl, rfl⟩ rfl rfl rfl rfl rfl (by kernel_rfl) Tryz.func5 (by kernel_rfl)
    (of_decide_eq_true (by kernel_rfl)) (by unfold Func.isWrapper; first | (rw [if_pos (by decide +kernel)]; kernel_rfl) | (rw [if_neg (by decide +kernel)]; exact ⟨rfl, rfl⟩))
    (fun os started H enc _ => lifted os started H enc)
end Go.Proofs.YtjjogcnjcnpehaaGreat.nestPartition
namespace Go.Proofs.YtjjogcnjcnpehaaGreat
theorem nestPartition_holds : Rows.NestPartitionSaid := nestPartition.over
end Go.Proofs.YtjjogcnjcnpehaaGreat
