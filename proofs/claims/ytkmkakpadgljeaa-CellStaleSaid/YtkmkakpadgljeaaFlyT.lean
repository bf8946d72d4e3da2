/- Facts on the types of this program, in the spelling of the small logic. -/
import Derived.Test.YtkmkakpadgljeaaFlyMap
import Derived.Test.YtkmkakpadgljeaaFlySlice
import Derived.Test.YtkmkakpadgljeaaFlyOps3
import Derived.Test.YtkmkakpadgljeaaProg
import Derived.KernelRfl
namespace Go.Proofs.Ytkmkakpadgljeaa
open Go Fly
set_option linter.unusedSimpArgs false
theorem kt98 : KeyT Try.prog 98 3 3 (fun x : Int => .int .i64 x) := keyInt Try.underlying98 Try.underlying3
theorem sl22 : SlT Try.prog 22 39 3 := ⟨Try.runUnderlying22, Try.sizeOf39⟩
theorem sl25 : SlT Try.prog 25 3 1 := ⟨Try.runUnderlying25, Try.sizeOf3⟩
theorem sl26 : SlT Try.prog 26 25 1 := ⟨Try.runUnderlying26, Try.sizeOf25⟩
theorem sl36 : SlT Try.prog 36 4 1 := ⟨Try.runUnderlying36, Try.sizeOf4⟩
theorem sl58 : SlT Try.prog 58 3 1 := ⟨Try.runUnderlying58, Try.sizeOf3⟩
theorem sl105 : SlT Try.prog 105 108 2 := ⟨Try.runUnderlying105, Try.sizeOf108⟩
theorem st24 : StT Try.prog 24 [(0, 1), (1, 1)] [(Value.int IntKind.i64 0), (Value.slice none 0 0)] := fun vs cs w h => by simp only [Instr.build, Sem.run_bind, Try.zeroValue24, Try.runUnderlying24, Result.andThen_ok, Value.cells, List.mapM_toArray, List.mapM_cons, List.mapM_nil, Try.sizeOf3, Try.sizeOf22, Sem.run_pure, Sem.run_map, bind_pure_comp, map_pure, pure_bind]; simp at h ⊢; simp [h]
theorem st28 : StT Try.prog 28 [(0, 1), (1, 1)] [(Value.slice none 0 0), (Value.slice none 0 0)] := fun vs cs w h => by simp only [Instr.build, Sem.run_bind, Try.zeroValue28, Try.runUnderlying28, Result.andThen_ok, Value.cells, List.mapM_toArray, List.mapM_cons, List.mapM_nil, Try.sizeOf25, Try.sizeOf26, Sem.run_pure, Sem.run_map, bind_pure_comp, map_pure, pure_bind]; simp at h ⊢; simp [h]
theorem st39 : StT Try.prog 39 [(0, 1), (1, 1), (2, 1)] [(Value.int IntKind.i64 0), (Value.int IntKind.i64 0), (Value.int IntKind.u32 0)] := fun vs cs w h => by simp only [Instr.build, Sem.run_bind, Try.zeroValue39, Try.runUnderlying39, Result.andThen_ok, Value.cells, List.mapM_toArray, List.mapM_cons, List.mapM_nil, Try.sizeOf3, Try.sizeOf37, Sem.run_pure, Sem.run_map, bind_pure_comp, map_pure, pure_bind]; simp at h ⊢; simp [h]
theorem st60 : StT Try.prog 60 [(0, 1), (1, 1)] [(Value.slice none 0 0), (Value.int IntKind.i64 0)] := fun vs cs w h => by simp only [Instr.build, Sem.run_bind, Try.zeroValue60, Try.runUnderlying60, Result.andThen_ok, Value.cells, List.mapM_toArray, List.mapM_cons, List.mapM_nil, Try.sizeOf3, Try.sizeOf58, Sem.run_pure, Sem.run_map, bind_pure_comp, map_pure, pure_bind]; simp at h ⊢; simp [h]
theorem st108 : StT Try.prog 108 [(0, 1), (1, 1)] [(Value.int IntKind.i64 0), (Value.int IntKind.i64 0)] := fun vs cs w h => by simp only [Instr.build, Sem.run_bind, Try.zeroValue108, Try.runUnderlying108, Result.andThen_ok, Value.cells, List.mapM_toArray, List.mapM_cons, List.mapM_nil, Try.sizeOf3, Sem.run_pure, Sem.run_map, bind_pure_comp, map_pure, pure_bind]; simp at h ⊢; simp [h]
theorem el22 : ElT Try.prog 22 39 3 24 [(Value.int IntKind.i64 0), (Value.int IntKind.i64 0), (Value.int IntKind.u32 0)] := ⟨Try.underlying22, by kernel_rfl, rfl, by omega⟩
theorem el25 : ElT Try.prog 25 3 1 8 [(Value.int IntKind.i64 0)] := ⟨Try.underlying25, by kernel_rfl, rfl, by omega⟩
theorem el26 : ElT Try.prog 26 25 1 24 [(Value.slice none 0 0)] := ⟨Try.underlying26, by kernel_rfl, rfl, by omega⟩
theorem el36 : ElT Try.prog 36 4 1 1 [(Value.bool false)] := ⟨Try.underlying36, by kernel_rfl, rfl, by omega⟩
theorem el105 : ElT Try.prog 105 108 2 16 [(Value.int IntKind.i64 0), (Value.int IntKind.i64 0)] := ⟨Try.underlying105, by kernel_rfl, rfl, by omega⟩
theorem fa24_0 : FieldAt Try.prog 24 0 0 := fun b i w => by simp [Instr.fieldAt, Instr.sureAddr, fieldPlace, Try.runUnderlying24, Try.sizeOf3, add_at]
theorem fa24_1 : FieldAt Try.prog 24 1 1 := fun b i w => by simp [Instr.fieldAt, Instr.sureAddr, fieldPlace, Try.runUnderlying24, Try.sizeOf22, add_at]
theorem fa28_0 : FieldAt Try.prog 28 0 0 := fun b i w => by simp [Instr.fieldAt, Instr.sureAddr, fieldPlace, Try.runUnderlying28, Try.sizeOf25, add_at]
theorem fa28_1 : FieldAt Try.prog 28 1 1 := fun b i w => by simp [Instr.fieldAt, Instr.sureAddr, fieldPlace, Try.runUnderlying28, Try.sizeOf26, add_at]
theorem fa39_0 : FieldAt Try.prog 39 0 0 := fun b i w => by simp [Instr.fieldAt, Instr.sureAddr, fieldPlace, Try.runUnderlying39, Try.sizeOf3, add_at]
theorem fa39_1 : FieldAt Try.prog 39 1 1 := fun b i w => by simp [Instr.fieldAt, Instr.sureAddr, fieldPlace, Try.runUnderlying39, Try.sizeOf3, add_at]
theorem fa45_0 : FieldAt Try.prog 45 0 0 := fun b i w => by simp [Instr.fieldAt, Instr.sureAddr, fieldPlace, Try.runUnderlying45, Try.sizeOf3, add_at]
theorem fa45_1 : FieldAt Try.prog 45 1 1 := fun b i w => by simp [Instr.fieldAt, Instr.sureAddr, fieldPlace, Try.runUnderlying45, Try.sizeOf25, add_at]
theorem fa60_0 : FieldAt Try.prog 60 0 0 := fun b i w => by simp [Instr.fieldAt, Instr.sureAddr, fieldPlace, Try.runUnderlying60, Try.sizeOf58, add_at]
theorem fa60_1 : FieldAt Try.prog 60 1 1 := fun b i w => by simp [Instr.fieldAt, Instr.sureAddr, fieldPlace, Try.runUnderlying60, Try.sizeOf3, add_at]
theorem fa108_0 : FieldAt Try.prog 108 0 0 := fun b i w => by simp [Instr.fieldAt, Instr.sureAddr, fieldPlace, Try.runUnderlying108, Try.sizeOf3, add_at]
theorem fa108_1 : FieldAt Try.prog 108 1 1 := fun b i w => by simp [Instr.fieldAt, Instr.sureAddr, fieldPlace, Try.runUnderlying108, Try.sizeOf3, add_at]
end Go.Proofs.Ytkmkakpadgljeaa
