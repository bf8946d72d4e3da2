/- Facts on the types of this program, in the spelling of the small logic. -/
import Derived.Test.YthbkeoejbendnaaFlyMap
import Derived.Test.YthbkeoejbendnaaFlySlice
import Derived.Test.YthbkeoejbendnaaFlyOps3
import Derived.Test.YthbkeoejbendnaaProg
import Derived.KernelRfl
namespace Go.Proofs.Ythbkeoejbendnaa
open Go Fly
set_option linter.unusedSimpArgs false
theorem kt58 : KeyT Try.prog 58 3 3 (fun x : Int => .int .i64 x) := keyInt Try.underlying58 Try.underlying3
theorem sl22 : SlT Try.prog 22 34 3 := ⟨Try.runUnderlying22, Try.sizeOf34⟩
theorem sl29 : SlT Try.prog 29 3 1 := ⟨Try.runUnderlying29, Try.sizeOf3⟩
theorem sl41 : SlT Try.prog 41 4 1 := ⟨Try.runUnderlying41, Try.sizeOf4⟩
theorem sl45 : SlT Try.prog 45 61 2 := ⟨Try.runUnderlying45, Try.sizeOf61⟩
theorem sl47 : SlT Try.prog 47 32 1 := ⟨Try.runUnderlying47, Try.sizeOf32⟩
theorem st24 : StT Try.prog 24 [(0, 1), (1, 1)] [(Value.int IntKind.i64 0), (Value.slice none 0 0)] := fun vs cs w h => by simp only [Instr.build, Sem.run_bind, Try.zeroValue24, Try.runUnderlying24, Result.andThen_ok, Value.cells, List.mapM_toArray, List.mapM_cons, List.mapM_nil, Try.sizeOf3, Try.sizeOf22, Sem.run_pure, Sem.run_map, bind_pure_comp, map_pure, pure_bind]; simp at h ⊢; simp [h]
theorem st34 : StT Try.prog 34 [(0, 1), (1, 1), (2, 1)] [(Value.int IntKind.i64 0), (Value.int IntKind.i64 0), (Value.int IntKind.u32 0)] := fun vs cs w h => by simp only [Instr.build, Sem.run_bind, Try.zeroValue34, Try.runUnderlying34, Result.andThen_ok, Value.cells, List.mapM_toArray, List.mapM_cons, List.mapM_nil, Try.sizeOf3, Try.sizeOf32, Sem.run_pure, Sem.run_map, bind_pure_comp, map_pure, pure_bind]; simp at h ⊢; simp [h]
theorem st72 : StT Try.prog 72 [(0, 1)] [(Value.slice none 0 0)] := fun vs cs w h => by simp only [Instr.build, Sem.run_bind, Try.zeroValue72, Try.runUnderlying72, Result.andThen_ok, Value.cells, List.mapM_toArray, List.mapM_cons, List.mapM_nil, Try.sizeOf29, Sem.run_pure, Sem.run_map, bind_pure_comp, map_pure, pure_bind]; simp at h ⊢; simp [h]
theorem el22 : ElT Try.prog 22 34 3 24 [(Value.int IntKind.i64 0), (Value.int IntKind.i64 0), (Value.int IntKind.u32 0)] := ⟨Try.underlying22, by kernel_rfl, rfl, by omega⟩
theorem el29 : ElT Try.prog 29 3 1 8 [(Value.int IntKind.i64 0)] := ⟨Try.underlying29, by kernel_rfl, rfl, by omega⟩
theorem el41 : ElT Try.prog 41 4 1 1 [(Value.bool false)] := ⟨Try.underlying41, by kernel_rfl, rfl, by omega⟩
theorem el45 : ElT Try.prog 45 61 2 16 [(Value.int IntKind.i64 0), (Value.int IntKind.u32 0)] := ⟨Try.underlying45, by kernel_rfl, rfl, by omega⟩
theorem el47 : ElT Try.prog 47 32 1 4 [(Value.int IntKind.u32 0)] := ⟨Try.underlying47, by kernel_rfl, rfl, by omega⟩
theorem fa24_0 : FieldAt Try.prog 24 0 0 := fun b i w => by simp [Instr.fieldAt, Instr.sureAddr, fieldPlace, Try.runUnderlying24, Try.sizeOf3, add_at]
theorem fa24_1 : FieldAt Try.prog 24 1 1 := fun b i w => by simp [Instr.fieldAt, Instr.sureAddr, fieldPlace, Try.runUnderlying24, Try.sizeOf22, add_at]
theorem fa34_0 : FieldAt Try.prog 34 0 0 := fun b i w => by simp [Instr.fieldAt, Instr.sureAddr, fieldPlace, Try.runUnderlying34, Try.sizeOf3, add_at]
theorem fa34_1 : FieldAt Try.prog 34 1 1 := fun b i w => by simp [Instr.fieldAt, Instr.sureAddr, fieldPlace, Try.runUnderlying34, Try.sizeOf3, add_at]
theorem fa34_2 : FieldAt Try.prog 34 2 2 := fun b i w => by simp [Instr.fieldAt, Instr.sureAddr, fieldPlace, Try.runUnderlying34, Try.sizeOf32, add_at]
theorem fa61_0 : FieldAt Try.prog 61 0 0 := fun b i w => by simp [Instr.fieldAt, Instr.sureAddr, fieldPlace, Try.runUnderlying61, Try.sizeOf3, add_at]
theorem fa61_1 : FieldAt Try.prog 61 1 1 := fun b i w => by simp [Instr.fieldAt, Instr.sureAddr, fieldPlace, Try.runUnderlying61, Try.sizeOf32, add_at]
theorem fa72_0 : FieldAt Try.prog 72 0 0 := fun b i w => by simp [Instr.fieldAt, Instr.sureAddr, fieldPlace, Try.runUnderlying72, Try.sizeOf29, add_at]
end Go.Proofs.Ythbkeoejbendnaa
