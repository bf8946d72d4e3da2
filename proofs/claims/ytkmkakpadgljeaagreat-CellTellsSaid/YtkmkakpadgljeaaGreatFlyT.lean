/- Facts on the types of this program, in the spelling of the small logic. -/
import Derived.Test.YtkmkakpadgljeaaGreatFlyMap
import Derived.Test.YtkmkakpadgljeaaGreatFlySlice
import Derived.Test.YtkmkakpadgljeaaGreatFlyOps3
import Derived.Test.YtkmkakpadgljeaaGreatProg
import Derived.KernelRfl
namespace Go.Proofs.YtkmkakpadgljeaaGreat
open Go Fly
set_option linter.unusedSimpArgs false
theorem kt105 : KeyT Tryz.prog 105 3 3 (fun x : Int => .int .i64 x) := keyInt Tryz.underlying105 Tryz.underlying3
theorem sl22 : SlT Tryz.prog 22 48 3 := ⟨Tryz.runUnderlying22, Tryz.sizeOf48⟩
theorem sl25 : SlT Tryz.prog 25 3 1 := ⟨Tryz.runUnderlying25, Tryz.sizeOf3⟩
theorem sl26 : SlT Tryz.prog 26 25 1 := ⟨Tryz.runUnderlying26, Tryz.sizeOf25⟩
theorem sl64 : SlT Tryz.prog 64 4 1 := ⟨Tryz.runUnderlying64, Tryz.sizeOf4⟩
theorem sl69 : SlT Tryz.prog 69 3 1 := ⟨Tryz.runUnderlying69, Tryz.sizeOf3⟩
theorem sl106 : SlT Tryz.prog 106 109 2 := ⟨Tryz.runUnderlying106, Tryz.sizeOf109⟩
theorem st24 : StT Tryz.prog 24 [(0, 1), (1, 1)] [(Value.int IntKind.i64 0), (Value.slice none 0 0)] := fun vs cs w h => by simp only [Instr.build, Sem.run_bind, Tryz.zeroValue24, Tryz.runUnderlying24, Result.andThen_ok, Value.cells, List.mapM_toArray, List.mapM_cons, List.mapM_nil, Tryz.sizeOf3, Tryz.sizeOf22, Sem.run_pure, Sem.run_map, bind_pure_comp, map_pure, pure_bind]; simp at h ⊢; simp [h]
theorem st28 : StT Tryz.prog 28 [(0, 1), (1, 1)] [(Value.slice none 0 0), (Value.slice none 0 0)] := fun vs cs w h => by simp only [Instr.build, Sem.run_bind, Tryz.zeroValue28, Tryz.runUnderlying28, Result.andThen_ok, Value.cells, List.mapM_toArray, List.mapM_cons, List.mapM_nil, Tryz.sizeOf25, Tryz.sizeOf26, Sem.run_pure, Sem.run_map, bind_pure_comp, map_pure, pure_bind]; simp at h ⊢; simp [h]
theorem st48 : StT Tryz.prog 48 [(0, 1), (1, 1), (2, 1)] [(Value.int IntKind.i64 0), (Value.int IntKind.i64 0), (Value.int IntKind.u32 0)] := fun vs cs w h => by simp only [Instr.build, Sem.run_bind, Tryz.zeroValue48, Tryz.runUnderlying48, Result.andThen_ok, Value.cells, List.mapM_toArray, List.mapM_cons, List.mapM_nil, Tryz.sizeOf3, Tryz.sizeOf46, Sem.run_pure, Sem.run_map, bind_pure_comp, map_pure, pure_bind]; simp at h ⊢; simp [h]
theorem st71 : StT Tryz.prog 71 [(0, 1), (1, 1)] [(Value.slice none 0 0), (Value.int IntKind.i64 0)] := fun vs cs w h => by simp only [Instr.build, Sem.run_bind, Tryz.zeroValue71, Tryz.runUnderlying71, Result.andThen_ok, Value.cells, List.mapM_toArray, List.mapM_cons, List.mapM_nil, Tryz.sizeOf3, Tryz.sizeOf69, Sem.run_pure, Sem.run_map, bind_pure_comp, map_pure, pure_bind]; simp at h ⊢; simp [h]
theorem st109 : StT Tryz.prog 109 [(0, 1), (1, 1)] [(Value.int IntKind.i64 0), (Value.int IntKind.i64 0)] := fun vs cs w h => by simp only [Instr.build, Sem.run_bind, Tryz.zeroValue109, Tryz.runUnderlying109, Result.andThen_ok, Value.cells, List.mapM_toArray, List.mapM_cons, List.mapM_nil, Tryz.sizeOf3, Sem.run_pure, Sem.run_map, bind_pure_comp, map_pure, pure_bind]; simp at h ⊢; simp [h]
theorem el22 : ElT Tryz.prog 22 48 3 24 [(Value.int IntKind.i64 0), (Value.int IntKind.i64 0), (Value.int IntKind.u32 0)] := ⟨Tryz.underlying22, by kernel_rfl, rfl, by omega⟩
theorem el25 : ElT Tryz.prog 25 3 1 8 [(Value.int IntKind.i64 0)] := ⟨Tryz.underlying25, by kernel_rfl, rfl, by omega⟩
theorem el26 : ElT Tryz.prog 26 25 1 24 [(Value.slice none 0 0)] := ⟨Tryz.underlying26, by kernel_rfl, rfl, by omega⟩
theorem el64 : ElT Tryz.prog 64 4 1 1 [(Value.bool false)] := ⟨Tryz.underlying64, by kernel_rfl, rfl, by omega⟩
theorem el106 : ElT Tryz.prog 106 109 2 16 [(Value.int IntKind.i64 0), (Value.int IntKind.i64 0)] := ⟨Tryz.underlying106, by kernel_rfl, rfl, by omega⟩
theorem fa24_0 : FieldAt Tryz.prog 24 0 0 := fun b i w => by simp [Instr.fieldAt, Instr.sureAddr, fieldPlace, Tryz.runUnderlying24, Tryz.sizeOf3, add_at]
theorem fa24_1 : FieldAt Tryz.prog 24 1 1 := fun b i w => by simp [Instr.fieldAt, Instr.sureAddr, fieldPlace, Tryz.runUnderlying24, Tryz.sizeOf22, add_at]
theorem fa28_0 : FieldAt Tryz.prog 28 0 0 := fun b i w => by simp [Instr.fieldAt, Instr.sureAddr, fieldPlace, Tryz.runUnderlying28, Tryz.sizeOf25, add_at]
theorem fa28_1 : FieldAt Tryz.prog 28 1 1 := fun b i w => by simp [Instr.fieldAt, Instr.sureAddr, fieldPlace, Tryz.runUnderlying28, Tryz.sizeOf26, add_at]
theorem fa30_0 : FieldAt Tryz.prog 30 0 0 := fun b i w => by simp [Instr.fieldAt, Instr.sureAddr, fieldPlace, Tryz.runUnderlying30, Tryz.sizeOf3, add_at]
theorem fa30_1 : FieldAt Tryz.prog 30 1 1 := fun b i w => by simp [Instr.fieldAt, Instr.sureAddr, fieldPlace, Tryz.runUnderlying30, Tryz.sizeOf3, add_at]
theorem fa30_2 : FieldAt Tryz.prog 30 2 2 := fun b i w => by simp [Instr.fieldAt, Instr.sureAddr, fieldPlace, Tryz.runUnderlying30, Tryz.sizeOf3, add_at]
theorem fa48_0 : FieldAt Tryz.prog 48 0 0 := fun b i w => by simp [Instr.fieldAt, Instr.sureAddr, fieldPlace, Tryz.runUnderlying48, Tryz.sizeOf3, add_at]
theorem fa48_1 : FieldAt Tryz.prog 48 1 1 := fun b i w => by simp [Instr.fieldAt, Instr.sureAddr, fieldPlace, Tryz.runUnderlying48, Tryz.sizeOf3, add_at]
theorem fa71_0 : FieldAt Tryz.prog 71 0 0 := fun b i w => by simp [Instr.fieldAt, Instr.sureAddr, fieldPlace, Tryz.runUnderlying71, Tryz.sizeOf69, add_at]
theorem fa109_0 : FieldAt Tryz.prog 109 0 0 := fun b i w => by simp [Instr.fieldAt, Instr.sureAddr, fieldPlace, Tryz.runUnderlying109, Tryz.sizeOf3, add_at]
theorem fa109_1 : FieldAt Tryz.prog 109 1 1 := fun b i w => by simp [Instr.fieldAt, Instr.sureAddr, fieldPlace, Tryz.runUnderlying109, Tryz.sizeOf3, add_at]
end Go.Proofs.YtkmkakpadgljeaaGreat
