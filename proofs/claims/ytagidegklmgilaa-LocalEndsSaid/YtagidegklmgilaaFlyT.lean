/- Facts on the types of this program, in the spelling of the small logic. -/
import Derived.Test.YtagidegklmgilaaFlyMap
import Derived.Test.YtagidegklmgilaaFlySlice
import Derived.Test.YtagidegklmgilaaFlyOps3
import Derived.Test.YtagidegklmgilaaProg
import Derived.KernelRfl
namespace Go.Proofs.Ytagidegklmgilaa
open Go Fly
set_option linter.unusedSimpArgs false
theorem kt65 : KeyT Try.prog 65 3 3 (fun x : Int => .int .i64 x) := keyInt Try.underlying65 Try.underlying3
theorem sl22 : SlT Try.prog 22 46 3 := ⟨Try.runUnderlying22, Try.sizeOf46⟩
theorem sl25 : SlT Try.prog 25 3 1 := ⟨Try.runUnderlying25, Try.sizeOf3⟩
theorem sl49 : SlT Try.prog 49 52 2 := ⟨Try.runUnderlying49, Try.sizeOf52⟩
theorem sl61 : SlT Try.prog 61 25 1 := ⟨Try.runUnderlying61, Try.sizeOf25⟩
theorem st24 : StT Try.prog 24 [(0, 1), (1, 1)] [(Value.int IntKind.i64 0), (Value.slice none 0 0)] := fun vs cs w h => by simp only [Instr.build, Sem.run_bind, Try.zeroValue24, Try.runUnderlying24, Result.andThen_ok, Value.cells, List.mapM_toArray, List.mapM_cons, List.mapM_nil, Try.sizeOf3, Try.sizeOf22, Sem.run_pure, Sem.run_map, bind_pure_comp, map_pure, pure_bind]; simp at h ⊢; simp [h]
theorem st46 : StT Try.prog 46 [(0, 1), (1, 1), (2, 1)] [(Value.int IntKind.i64 0), (Value.int IntKind.i64 0), (Value.int IntKind.u32 0)] := fun vs cs w h => by simp only [Instr.build, Sem.run_bind, Try.zeroValue46, Try.runUnderlying46, Result.andThen_ok, Value.cells, List.mapM_toArray, List.mapM_cons, List.mapM_nil, Try.sizeOf3, Try.sizeOf44, Sem.run_pure, Sem.run_map, bind_pure_comp, map_pure, pure_bind]; simp at h ⊢; simp [h]
theorem st52 : StT Try.prog 52 [(0, 1), (1, 1)] [(Value.int IntKind.i64 0), (Value.int IntKind.i64 0)] := fun vs cs w h => by simp only [Instr.build, Sem.run_bind, Try.zeroValue52, Try.runUnderlying52, Result.andThen_ok, Value.cells, List.mapM_toArray, List.mapM_cons, List.mapM_nil, Try.sizeOf3, Sem.run_pure, Sem.run_map, bind_pure_comp, map_pure, pure_bind]; simp at h ⊢; simp [h]
theorem st57 : StT Try.prog 57 [(0, 1), (1, 1), (2, 1)] [(Value.int IntKind.i64 0), (Value.int IntKind.i64 0), (Value.int IntKind.i64 0)] := fun vs cs w h => by simp only [Instr.build, Sem.run_bind, Try.zeroValue57, Try.runUnderlying57, Result.andThen_ok, Value.cells, List.mapM_toArray, List.mapM_cons, List.mapM_nil, Try.sizeOf3, Sem.run_pure, Sem.run_map, bind_pure_comp, map_pure, pure_bind]; simp at h ⊢; simp [h]
theorem st63 : StT Try.prog 63 [(0, 1), (1, 1), (2, 1)] [(Value.slice none 0 0), (Value.slice none 0 0), (Value.slice none 0 0)] := fun vs cs w h => by simp only [Instr.build, Sem.run_bind, Try.zeroValue63, Try.runUnderlying63, Result.andThen_ok, Value.cells, List.mapM_toArray, List.mapM_cons, List.mapM_nil, Try.sizeOf25, Try.sizeOf61, Sem.run_pure, Sem.run_map, bind_pure_comp, map_pure, pure_bind]; simp at h ⊢; simp [h]
theorem el22 : ElT Try.prog 22 46 3 24 [(Value.int IntKind.i64 0), (Value.int IntKind.i64 0), (Value.int IntKind.u32 0)] := ⟨Try.underlying22, by kernel_rfl, rfl, by omega⟩
theorem el25 : ElT Try.prog 25 3 1 8 [(Value.int IntKind.i64 0)] := ⟨Try.underlying25, by kernel_rfl, rfl, by omega⟩
theorem el49 : ElT Try.prog 49 52 2 16 [(Value.int IntKind.i64 0), (Value.int IntKind.i64 0)] := ⟨Try.underlying49, by kernel_rfl, rfl, by omega⟩
theorem el61 : ElT Try.prog 61 25 1 24 [(Value.slice none 0 0)] := ⟨Try.underlying61, by kernel_rfl, rfl, by omega⟩
theorem fa24_0 : FieldAt Try.prog 24 0 0 := fun b i w => by simp [Instr.fieldAt, Instr.sureAddr, fieldPlace, Try.runUnderlying24, Try.sizeOf3, add_at]
theorem fa24_1 : FieldAt Try.prog 24 1 1 := fun b i w => by simp [Instr.fieldAt, Instr.sureAddr, fieldPlace, Try.runUnderlying24, Try.sizeOf22, add_at]
theorem fa27_2 : FieldAt Try.prog 27 2 2 := fun b i w => by simp [Instr.fieldAt, Instr.sureAddr, fieldPlace, Try.runUnderlying27, Try.sizeOf3, add_at]
theorem fa27_3 : FieldAt Try.prog 27 3 3 := fun b i w => by simp [Instr.fieldAt, Instr.sureAddr, fieldPlace, Try.runUnderlying27, Try.sizeOf3, add_at]
theorem fa46_0 : FieldAt Try.prog 46 0 0 := fun b i w => by simp [Instr.fieldAt, Instr.sureAddr, fieldPlace, Try.runUnderlying46, Try.sizeOf3, add_at]
theorem fa46_1 : FieldAt Try.prog 46 1 1 := fun b i w => by simp [Instr.fieldAt, Instr.sureAddr, fieldPlace, Try.runUnderlying46, Try.sizeOf3, add_at]
theorem fa52_0 : FieldAt Try.prog 52 0 0 := fun b i w => by simp [Instr.fieldAt, Instr.sureAddr, fieldPlace, Try.runUnderlying52, Try.sizeOf3, add_at]
theorem fa52_1 : FieldAt Try.prog 52 1 1 := fun b i w => by simp [Instr.fieldAt, Instr.sureAddr, fieldPlace, Try.runUnderlying52, Try.sizeOf3, add_at]
theorem fa57_0 : FieldAt Try.prog 57 0 0 := fun b i w => by simp [Instr.fieldAt, Instr.sureAddr, fieldPlace, Try.runUnderlying57, Try.sizeOf3, add_at]
theorem fa57_1 : FieldAt Try.prog 57 1 1 := fun b i w => by simp [Instr.fieldAt, Instr.sureAddr, fieldPlace, Try.runUnderlying57, Try.sizeOf3, add_at]
theorem fa57_2 : FieldAt Try.prog 57 2 2 := fun b i w => by simp [Instr.fieldAt, Instr.sureAddr, fieldPlace, Try.runUnderlying57, Try.sizeOf3, add_at]
theorem fa63_0 : FieldAt Try.prog 63 0 0 := fun b i w => by simp [Instr.fieldAt, Instr.sureAddr, fieldPlace, Try.runUnderlying63, Try.sizeOf25, add_at]
theorem fa63_1 : FieldAt Try.prog 63 1 1 := fun b i w => by simp [Instr.fieldAt, Instr.sureAddr, fieldPlace, Try.runUnderlying63, Try.sizeOf61, add_at]
theorem fa63_2 : FieldAt Try.prog 63 2 2 := fun b i w => by simp [Instr.fieldAt, Instr.sureAddr, fieldPlace, Try.runUnderlying63, Try.sizeOf25, add_at]
end Go.Proofs.Ytagidegklmgilaa
