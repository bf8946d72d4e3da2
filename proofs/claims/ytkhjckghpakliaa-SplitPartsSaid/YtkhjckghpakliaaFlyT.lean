/- Facts on the types of this program, in the spelling of the small logic. -/
import Derived.Test.YtkhjckghpakliaaFlyMap
import Derived.Test.YtkhjckghpakliaaFlySlice
import Derived.Test.YtkhjckghpakliaaFlyOps3
import Derived.Test.YtkhjckghpakliaaProg
import Derived.KernelRfl
namespace Go.Proofs.Ytkhjckghpakliaa
open Go Fly
set_option linter.unusedSimpArgs false
theorem ar75 : ArT Try.prog 75 2 3 1 [(Value.int IntKind.i64 0), (Value.int IntKind.i64 0)] := ⟨Try.runUnderlying75, Try.sizeOf3, _, Try.zeroValue75, rfl⟩
theorem kt66 : KeyT Try.prog 66 3 3 (fun x : Int => .int .i64 x) := keyInt Try.underlying66 Try.underlying3
theorem kt74 : KeyT Try.prog 74 75 3 enc2 := keyArr2 Try.underlying74 Try.underlying75 Try.underlying3 (Option.eq_some_of_isSome (by kernel_rfl)) (by kernel_rfl)
theorem sl22 : SlT Try.prog 22 44 3 := ⟨Try.runUnderlying22, Try.sizeOf44⟩
theorem sl25 : SlT Try.prog 25 3 1 := ⟨Try.runUnderlying25, Try.sizeOf3⟩
theorem sl33 : SlT Try.prog 33 37 2 := ⟨Try.runUnderlying33, Try.sizeOf37⟩
theorem sl48 : SlT Try.prog 48 4 1 := ⟨Try.runUnderlying48, Try.sizeOf4⟩
theorem sl56 : SlT Try.prog 56 59 3 := ⟨Try.runUnderlying56, Try.sizeOf59⟩
theorem sl67 : SlT Try.prog 67 25 1 := ⟨Try.runUnderlying67, Try.sizeOf25⟩
theorem st24 : StT Try.prog 24 [(0, 1), (1, 1)] [(Value.int IntKind.i64 0), (Value.slice none 0 0)] := fun vs cs w h => by simp only [Instr.build, Sem.run_bind, Try.zeroValue24, Try.runUnderlying24, Result.andThen_ok, Value.cells, List.mapM_toArray, List.mapM_cons, List.mapM_nil, Try.sizeOf3, Try.sizeOf22, Sem.run_pure, Sem.run_map, bind_pure_comp, map_pure, pure_bind]; simp at h ⊢; simp [h]
theorem st37 : StT Try.prog 37 [(0, 1), (1, 1)] [(Value.int IntKind.i64 0), (Value.int IntKind.i64 0)] := fun vs cs w h => by simp only [Instr.build, Sem.run_bind, Try.zeroValue37, Try.runUnderlying37, Result.andThen_ok, Value.cells, List.mapM_toArray, List.mapM_cons, List.mapM_nil, Try.sizeOf3, Sem.run_pure, Sem.run_map, bind_pure_comp, map_pure, pure_bind]; simp at h ⊢; simp [h]
theorem st44 : StT Try.prog 44 [(0, 1), (1, 1), (2, 1)] [(Value.int IntKind.i64 0), (Value.int IntKind.i64 0), (Value.int IntKind.u32 0)] := fun vs cs w h => by simp only [Instr.build, Sem.run_bind, Try.zeroValue44, Try.runUnderlying44, Result.andThen_ok, Value.cells, List.mapM_toArray, List.mapM_cons, List.mapM_nil, Try.sizeOf3, Try.sizeOf42, Sem.run_pure, Sem.run_map, bind_pure_comp, map_pure, pure_bind]; simp at h ⊢; simp [h]
theorem st59 : StT Try.prog 59 [(0, 1), (1, 1), (2, 1)] [(Value.int IntKind.i64 0), (Value.int IntKind.i64 0), (Value.int IntKind.i64 0)] := fun vs cs w h => by simp only [Instr.build, Sem.run_bind, Try.zeroValue59, Try.runUnderlying59, Result.andThen_ok, Value.cells, List.mapM_toArray, List.mapM_cons, List.mapM_nil, Try.sizeOf3, Sem.run_pure, Sem.run_map, bind_pure_comp, map_pure, pure_bind]; simp at h ⊢; simp [h]
theorem el22 : ElT Try.prog 22 44 3 24 [(Value.int IntKind.i64 0), (Value.int IntKind.i64 0), (Value.int IntKind.u32 0)] := ⟨Try.underlying22, by kernel_rfl, rfl, by omega⟩
theorem el25 : ElT Try.prog 25 3 1 8 [(Value.int IntKind.i64 0)] := ⟨Try.underlying25, by kernel_rfl, rfl, by omega⟩
theorem el33 : ElT Try.prog 33 37 2 16 [(Value.int IntKind.i64 0), (Value.int IntKind.i64 0)] := ⟨Try.underlying33, by kernel_rfl, rfl, by omega⟩
theorem el48 : ElT Try.prog 48 4 1 1 [(Value.bool false)] := ⟨Try.underlying48, by kernel_rfl, rfl, by omega⟩
theorem el56 : ElT Try.prog 56 59 3 24 [(Value.int IntKind.i64 0), (Value.int IntKind.i64 0), (Value.int IntKind.i64 0)] := ⟨Try.underlying56, by kernel_rfl, rfl, by omega⟩
theorem el67 : ElT Try.prog 67 25 1 24 [(Value.slice none 0 0)] := ⟨Try.underlying67, by kernel_rfl, rfl, by omega⟩
theorem fa24_0 : FieldAt Try.prog 24 0 0 := fun b i w => by simp [Instr.fieldAt, Instr.sureAddr, fieldPlace, Try.runUnderlying24, Try.sizeOf3, add_at]
theorem fa24_1 : FieldAt Try.prog 24 1 1 := fun b i w => by simp [Instr.fieldAt, Instr.sureAddr, fieldPlace, Try.runUnderlying24, Try.sizeOf22, add_at]
theorem fa37_0 : FieldAt Try.prog 37 0 0 := fun b i w => by simp [Instr.fieldAt, Instr.sureAddr, fieldPlace, Try.runUnderlying37, Try.sizeOf3, add_at]
theorem fa37_1 : FieldAt Try.prog 37 1 1 := fun b i w => by simp [Instr.fieldAt, Instr.sureAddr, fieldPlace, Try.runUnderlying37, Try.sizeOf3, add_at]
theorem fa44_0 : FieldAt Try.prog 44 0 0 := fun b i w => by simp [Instr.fieldAt, Instr.sureAddr, fieldPlace, Try.runUnderlying44, Try.sizeOf3, add_at]
theorem fa44_1 : FieldAt Try.prog 44 1 1 := fun b i w => by simp [Instr.fieldAt, Instr.sureAddr, fieldPlace, Try.runUnderlying44, Try.sizeOf3, add_at]
theorem fa44_2 : FieldAt Try.prog 44 2 2 := fun b i w => by simp [Instr.fieldAt, Instr.sureAddr, fieldPlace, Try.runUnderlying44, Try.sizeOf42, add_at]
theorem fa59_0 : FieldAt Try.prog 59 0 0 := fun b i w => by simp [Instr.fieldAt, Instr.sureAddr, fieldPlace, Try.runUnderlying59, Try.sizeOf3, add_at]
theorem fa59_1 : FieldAt Try.prog 59 1 1 := fun b i w => by simp [Instr.fieldAt, Instr.sureAddr, fieldPlace, Try.runUnderlying59, Try.sizeOf3, add_at]
theorem fa59_2 : FieldAt Try.prog 59 2 2 := fun b i w => by simp [Instr.fieldAt, Instr.sureAddr, fieldPlace, Try.runUnderlying59, Try.sizeOf3, add_at]
end Go.Proofs.Ytkhjckghpakliaa
