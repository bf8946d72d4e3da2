/- Facts on the types of this program, in the spelling of the small logic. -/
import Derived.Test.YtnagjidfenfdbaaFlyMap
import Derived.Test.YtnagjidfenfdbaaFlySlice
import Derived.Test.YtnagjidfenfdbaaFlyOps3
import Derived.Test.YtnagjidfenfdbaaProg
import Derived.KernelRfl
namespace Go.Proofs.Ytnagjidfenfdbaa
open Go Fly
set_option linter.unusedSimpArgs false
theorem ar65 : ArT Try.prog 65 2 3 1 [(Value.int IntKind.i64 0), (Value.int IntKind.i64 0)] := ⟨Try.runUnderlying65, Try.sizeOf3, _, Try.zeroValue65, rfl⟩
theorem ar66 : ArT Try.prog 66 2 50 1 [(Value.int IntKind.u32 0), (Value.int IntKind.u32 0)] := ⟨Try.runUnderlying66, Try.sizeOf50, _, Try.zeroValue66, rfl⟩
theorem sl22 : SlT Try.prog 22 52 3 := ⟨Try.runUnderlying22, Try.sizeOf52⟩
theorem sl31 : SlT Try.prog 31 4 1 := ⟨Try.runUnderlying31, Try.sizeOf4⟩
theorem sl32 : SlT Try.prog 32 3 1 := ⟨Try.runUnderlying32, Try.sizeOf3⟩
theorem sl42 : SlT Try.prog 42 50 1 := ⟨Try.runUnderlying42, Try.sizeOf50⟩
theorem sl60 : SlT Try.prog 60 68 4 := ⟨Try.runUnderlying60, Try.sizeOf68⟩
theorem sl61 : SlT Try.prog 61 32 1 := ⟨Try.runUnderlying61, Try.sizeOf32⟩
theorem sl73 : SlT Try.prog 73 33 1 := ⟨Try.runUnderlying73, Try.sizeOf33⟩
theorem st24 : StT Try.prog 24 [(0, 1), (1, 1)] [(Value.int IntKind.i64 0), (Value.slice none 0 0)] := fun vs cs w h => by simp only [Instr.build, Sem.run_bind, Try.zeroValue24, Try.runUnderlying24, Result.andThen_ok, Value.cells, List.mapM_toArray, List.mapM_cons, List.mapM_nil, Try.sizeOf3, Try.sizeOf22, Sem.run_pure, Sem.run_map, bind_pure_comp, map_pure, pure_bind]; simp at h ⊢; simp [h]
theorem st52 : StT Try.prog 52 [(0, 1), (1, 1), (2, 1)] [(Value.int IntKind.i64 0), (Value.int IntKind.i64 0), (Value.int IntKind.u32 0)] := fun vs cs w h => by simp only [Instr.build, Sem.run_bind, Try.zeroValue52, Try.runUnderlying52, Result.andThen_ok, Value.cells, List.mapM_toArray, List.mapM_cons, List.mapM_nil, Try.sizeOf3, Try.sizeOf50, Sem.run_pure, Sem.run_map, bind_pure_comp, map_pure, pure_bind]; simp at h ⊢; simp [h]
theorem st63 : StT Try.prog 63 [(0, 1), (1, 1), (2, 1), (3, 1)] [(Value.slice none 0 0), (Value.slice none 0 0), (Value.slice none 0 0), (Value.slice none 0 0)] := fun vs cs w h => by simp only [Instr.build, Sem.run_bind, Try.zeroValue63, Try.runUnderlying63, Result.andThen_ok, Value.cells, List.mapM_toArray, List.mapM_cons, List.mapM_nil, Try.sizeOf32, Try.sizeOf60, Try.sizeOf61, Sem.run_pure, Sem.run_map, bind_pure_comp, map_pure, pure_bind]; simp at h ⊢; simp [h]
theorem st68 : StT Try.prog 68 [(0, 2), (2, 2)] [(Value.int IntKind.i64 0), (Value.int IntKind.i64 0), (Value.int IntKind.u32 0), (Value.int IntKind.u32 0)] := fun vs cs w h => by simp only [Instr.build, Sem.run_bind, Try.zeroValue68, Try.runUnderlying68, Result.andThen_ok, Value.cells, List.mapM_toArray, List.mapM_cons, List.mapM_nil, Try.sizeOf65, Try.sizeOf66, Sem.run_pure, Sem.run_map, bind_pure_comp, map_pure, pure_bind]; simp at h ⊢; simp [h]
theorem el22 : ElT Try.prog 22 52 3 24 [(Value.int IntKind.i64 0), (Value.int IntKind.i64 0), (Value.int IntKind.u32 0)] := ⟨Try.underlying22, by kernel_rfl, rfl, by omega⟩
theorem el31 : ElT Try.prog 31 4 1 1 [(Value.bool false)] := ⟨Try.underlying31, by kernel_rfl, rfl, by omega⟩
theorem el32 : ElT Try.prog 32 3 1 8 [(Value.int IntKind.i64 0)] := ⟨Try.underlying32, by kernel_rfl, rfl, by omega⟩
theorem el42 : ElT Try.prog 42 50 1 4 [(Value.int IntKind.u32 0)] := ⟨Try.underlying42, by kernel_rfl, rfl, by omega⟩
theorem el60 : ElT Try.prog 60 68 4 24 [(Value.int IntKind.i64 0), (Value.int IntKind.i64 0), (Value.int IntKind.u32 0), (Value.int IntKind.u32 0)] := ⟨Try.underlying60, by kernel_rfl, rfl, by omega⟩
theorem el61 : ElT Try.prog 61 32 1 24 [(Value.slice none 0 0)] := ⟨Try.underlying61, by kernel_rfl, rfl, by omega⟩
theorem el73 : ElT Try.prog 73 33 1 8 [(Value.int IntKind.u64 0)] := ⟨Try.underlying73, by kernel_rfl, rfl, by omega⟩
theorem fa24_0 : FieldAt Try.prog 24 0 0 := fun b i w => by simp [Instr.fieldAt, Instr.sureAddr, fieldPlace, Try.runUnderlying24, Try.sizeOf3, add_at]
theorem fa24_1 : FieldAt Try.prog 24 1 1 := fun b i w => by simp [Instr.fieldAt, Instr.sureAddr, fieldPlace, Try.runUnderlying24, Try.sizeOf22, add_at]
theorem fa52_0 : FieldAt Try.prog 52 0 0 := fun b i w => by simp [Instr.fieldAt, Instr.sureAddr, fieldPlace, Try.runUnderlying52, Try.sizeOf3, add_at]
theorem fa52_1 : FieldAt Try.prog 52 1 1 := fun b i w => by simp [Instr.fieldAt, Instr.sureAddr, fieldPlace, Try.runUnderlying52, Try.sizeOf3, add_at]
theorem fa52_2 : FieldAt Try.prog 52 2 2 := fun b i w => by simp [Instr.fieldAt, Instr.sureAddr, fieldPlace, Try.runUnderlying52, Try.sizeOf50, add_at]
theorem fa54_0 : FieldAt Try.prog 54 0 0 := fun b i w => by simp [Instr.fieldAt, Instr.sureAddr, fieldPlace, Try.runUnderlying54, Try.sizeOf3, add_at]
theorem fa54_1 : FieldAt Try.prog 54 1 1 := fun b i w => by simp [Instr.fieldAt, Instr.sureAddr, fieldPlace, Try.runUnderlying54, Try.sizeOf3, add_at]
theorem fa54_2 : FieldAt Try.prog 54 2 2 := fun b i w => by simp [Instr.fieldAt, Instr.sureAddr, fieldPlace, Try.runUnderlying54, Try.sizeOf3, add_at]
theorem fa54_3 : FieldAt Try.prog 54 3 3 := fun b i w => by simp [Instr.fieldAt, Instr.sureAddr, fieldPlace, Try.runUnderlying54, Try.sizeOf50, add_at]
theorem fa63_0 : FieldAt Try.prog 63 0 0 := fun b i w => by simp [Instr.fieldAt, Instr.sureAddr, fieldPlace, Try.runUnderlying63, Try.sizeOf60, add_at]
theorem fa63_1 : FieldAt Try.prog 63 1 1 := fun b i w => by simp [Instr.fieldAt, Instr.sureAddr, fieldPlace, Try.runUnderlying63, Try.sizeOf61, add_at]
theorem fa63_2 : FieldAt Try.prog 63 2 2 := fun b i w => by simp [Instr.fieldAt, Instr.sureAddr, fieldPlace, Try.runUnderlying63, Try.sizeOf32, add_at]
theorem fa63_3 : FieldAt Try.prog 63 3 3 := fun b i w => by simp [Instr.fieldAt, Instr.sureAddr, fieldPlace, Try.runUnderlying63, Try.sizeOf32, add_at]
theorem fa68_0 : FieldAt Try.prog 68 0 0 := fun b i w => by simp [Instr.fieldAt, Instr.sureAddr, fieldPlace, Try.runUnderlying68, Try.sizeOf65, add_at]
theorem fa68_1 : FieldAt Try.prog 68 1 2 := fun b i w => by simp [Instr.fieldAt, Instr.sureAddr, fieldPlace, Try.runUnderlying68, Try.sizeOf66, add_at]
end Go.Proofs.Ytnagjidfenfdbaa
