/- Facts on the types of this program, in the spelling of the small logic. -/
import Derived.Test.YtegkdbicomedjaaFlyMap
import Derived.Test.YtegkdbicomedjaaFlySlice
import Derived.Test.YtegkdbicomedjaaFlyOps3
import Derived.Test.YtegkdbicomedjaaProg
import Derived.KernelRfl
namespace Go.Proofs.Ytegkdbicomedjaa
open Go Fly
set_option linter.unusedSimpArgs false
theorem sl22 : SlT Try.prog 22 44 3 := ⟨Try.runUnderlying22, Try.sizeOf44⟩
theorem sl28 : SlT Try.prog 28 3 1 := ⟨Try.runUnderlying28, Try.sizeOf3⟩
theorem sl38 : SlT Try.prog 38 30 1 := ⟨Try.runUnderlying38, Try.sizeOf30⟩
theorem sl41 : SlT Try.prog 41 4 1 := ⟨Try.runUnderlying41, Try.sizeOf4⟩
theorem sl67 : SlT Try.prog 67 28 1 := ⟨Try.runUnderlying67, Try.sizeOf28⟩
theorem sl100 : SlT Try.prog 100 105 2 := ⟨Try.runUnderlying100, Try.sizeOf105⟩
theorem st24 : StT Try.prog 24 [(0, 1), (1, 1)] [(Value.int IntKind.i64 0), (Value.slice none 0 0)] := fun vs cs w h => by simp only [Instr.build, Sem.run_bind, Try.zeroValue24, Try.runUnderlying24, Result.andThen_ok, Value.cells, List.mapM_toArray, List.mapM_cons, List.mapM_nil, Try.sizeOf3, Try.sizeOf22, Sem.run_pure, Sem.run_map, bind_pure_comp, map_pure, pure_bind]; simp at h ⊢; simp [h]
theorem st44 : StT Try.prog 44 [(0, 1), (1, 1), (2, 1)] [(Value.int IntKind.i64 0), (Value.int IntKind.i64 0), (Value.int IntKind.u32 0)] := fun vs cs w h => by simp only [Instr.build, Sem.run_bind, Try.zeroValue44, Try.runUnderlying44, Result.andThen_ok, Value.cells, List.mapM_toArray, List.mapM_cons, List.mapM_nil, Try.sizeOf3, Try.sizeOf42, Sem.run_pure, Sem.run_map, bind_pure_comp, map_pure, pure_bind]; simp at h ⊢; simp [h]
theorem st70 : StT Try.prog 70 [(0, 2), (2, 1), (3, 1), (4, 1), (5, 1), (6, 1)] [(Value.int IntKind.i64 0), (Value.slice none 0 0), (Value.bool false), (Value.slice none 0 0), (Value.slice none 0 0), (Value.slice none 0 0), (Value.pointer none)] := fun vs cs w h => by simp only [Instr.build, Sem.run_bind, Try.zeroValue70, Try.runUnderlying70, Result.andThen_ok, Value.cells, List.mapM_toArray, List.mapM_cons, List.mapM_nil, Try.sizeOf4, Try.sizeOf24, Try.sizeOf28, Try.sizeOf38, Try.sizeOf67, Try.sizeOf68, Sem.run_pure, Sem.run_map, bind_pure_comp, map_pure, pure_bind]; simp at h ⊢; simp [h]
theorem st103 : StT Try.prog 103 [(0, 1), (1, 1), (2, 1)] [(Value.slice none 0 0), (Value.slice none 0 0), Value.nilFunc] := fun vs cs w h => by simp only [Instr.build, Sem.run_bind, Try.zeroValue103, Try.runUnderlying103, Result.andThen_ok, Value.cells, List.mapM_toArray, List.mapM_cons, List.mapM_nil, Try.sizeOf28, Try.sizeOf100, Try.sizeOf101, Sem.run_pure, Sem.run_map, bind_pure_comp, map_pure, pure_bind]; simp at h ⊢; simp [h]
theorem st105 : StT Try.prog 105 [(0, 1), (1, 1)] [(Value.int IntKind.i64 0), (Value.int IntKind.u64 0)] := fun vs cs w h => by simp only [Instr.build, Sem.run_bind, Try.zeroValue105, Try.runUnderlying105, Result.andThen_ok, Value.cells, List.mapM_toArray, List.mapM_cons, List.mapM_nil, Try.sizeOf3, Try.sizeOf30, Sem.run_pure, Sem.run_map, bind_pure_comp, map_pure, pure_bind]; simp at h ⊢; simp [h]
theorem st107 : StT Try.prog 107 [(0, 1)] [(Value.pointer none)] := fun vs cs w h => by simp only [Instr.build, Sem.run_bind, Try.zeroValue107, Try.runUnderlying107, Result.andThen_ok, Value.cells, List.mapM_toArray, List.mapM_cons, List.mapM_nil, Try.sizeOf99, Sem.run_pure, Sem.run_map, bind_pure_comp, map_pure, pure_bind]; simp at h ⊢; simp [h]
theorem el22 : ElT Try.prog 22 44 3 24 [(Value.int IntKind.i64 0), (Value.int IntKind.i64 0), (Value.int IntKind.u32 0)] := ⟨Try.underlying22, by kernel_rfl, rfl, by omega⟩
theorem el28 : ElT Try.prog 28 3 1 8 [(Value.int IntKind.i64 0)] := ⟨Try.underlying28, by kernel_rfl, rfl, by omega⟩
theorem el38 : ElT Try.prog 38 30 1 8 [(Value.int IntKind.u64 0)] := ⟨Try.underlying38, by kernel_rfl, rfl, by omega⟩
theorem el41 : ElT Try.prog 41 4 1 1 [(Value.bool false)] := ⟨Try.underlying41, by kernel_rfl, rfl, by omega⟩
theorem el67 : ElT Try.prog 67 28 1 24 [(Value.slice none 0 0)] := ⟨Try.underlying67, by kernel_rfl, rfl, by omega⟩
theorem el100 : ElT Try.prog 100 105 2 16 [(Value.int IntKind.i64 0), (Value.int IntKind.u64 0)] := ⟨Try.underlying100, by kernel_rfl, rfl, by omega⟩
theorem fa24_0 : FieldAt Try.prog 24 0 0 := fun b i w => by simp [Instr.fieldAt, Instr.sureAddr, fieldPlace, Try.runUnderlying24, Try.sizeOf3, add_at]
theorem fa24_1 : FieldAt Try.prog 24 1 1 := fun b i w => by simp [Instr.fieldAt, Instr.sureAddr, fieldPlace, Try.runUnderlying24, Try.sizeOf22, add_at]
theorem fa44_0 : FieldAt Try.prog 44 0 0 := fun b i w => by simp [Instr.fieldAt, Instr.sureAddr, fieldPlace, Try.runUnderlying44, Try.sizeOf3, add_at]
theorem fa44_1 : FieldAt Try.prog 44 1 1 := fun b i w => by simp [Instr.fieldAt, Instr.sureAddr, fieldPlace, Try.runUnderlying44, Try.sizeOf3, add_at]
theorem fa44_2 : FieldAt Try.prog 44 2 2 := fun b i w => by simp [Instr.fieldAt, Instr.sureAddr, fieldPlace, Try.runUnderlying44, Try.sizeOf42, add_at]
theorem fa53_0 : FieldAt Try.prog 53 0 0 := fun b i w => by simp [Instr.fieldAt, Instr.sureAddr, fieldPlace, Try.runUnderlying53, Try.sizeOf3, add_at]
theorem fa53_1 : FieldAt Try.prog 53 1 1 := fun b i w => by simp [Instr.fieldAt, Instr.sureAddr, fieldPlace, Try.runUnderlying53, Try.sizeOf3, add_at]
theorem fa53_2 : FieldAt Try.prog 53 2 2 := fun b i w => by simp [Instr.fieldAt, Instr.sureAddr, fieldPlace, Try.runUnderlying53, Try.sizeOf28, add_at]
theorem fa70_0 : FieldAt Try.prog 70 0 0 := fun b i w => by simp [Instr.fieldAt, Instr.sureAddr, fieldPlace, Try.runUnderlying70, Try.sizeOf24, add_at]
theorem fa70_1 : FieldAt Try.prog 70 1 2 := fun b i w => by simp [Instr.fieldAt, Instr.sureAddr, fieldPlace, Try.runUnderlying70, Try.sizeOf4, add_at]
theorem fa70_2 : FieldAt Try.prog 70 2 3 := fun b i w => by simp [Instr.fieldAt, Instr.sureAddr, fieldPlace, Try.runUnderlying70, Try.sizeOf67, add_at]
theorem fa70_3 : FieldAt Try.prog 70 3 4 := fun b i w => by simp [Instr.fieldAt, Instr.sureAddr, fieldPlace, Try.runUnderlying70, Try.sizeOf38, add_at]
theorem fa70_4 : FieldAt Try.prog 70 4 5 := fun b i w => by simp [Instr.fieldAt, Instr.sureAddr, fieldPlace, Try.runUnderlying70, Try.sizeOf28, add_at]
theorem fa70_5 : FieldAt Try.prog 70 5 6 := fun b i w => by simp [Instr.fieldAt, Instr.sureAddr, fieldPlace, Try.runUnderlying70, Try.sizeOf68, add_at]
theorem fa103_0 : FieldAt Try.prog 103 0 0 := fun b i w => by simp [Instr.fieldAt, Instr.sureAddr, fieldPlace, Try.runUnderlying103, Try.sizeOf100, add_at]
theorem fa103_1 : FieldAt Try.prog 103 1 1 := fun b i w => by simp [Instr.fieldAt, Instr.sureAddr, fieldPlace, Try.runUnderlying103, Try.sizeOf28, add_at]
theorem fa103_2 : FieldAt Try.prog 103 2 2 := fun b i w => by simp [Instr.fieldAt, Instr.sureAddr, fieldPlace, Try.runUnderlying103, Try.sizeOf101, add_at]
theorem fa105_0 : FieldAt Try.prog 105 0 0 := fun b i w => by simp [Instr.fieldAt, Instr.sureAddr, fieldPlace, Try.runUnderlying105, Try.sizeOf3, add_at]
theorem fa105_1 : FieldAt Try.prog 105 1 1 := fun b i w => by simp [Instr.fieldAt, Instr.sureAddr, fieldPlace, Try.runUnderlying105, Try.sizeOf30, add_at]
theorem fa107_0 : FieldAt Try.prog 107 0 0 := fun b i w => by simp [Instr.fieldAt, Instr.sureAddr, fieldPlace, Try.runUnderlying107, Try.sizeOf99, add_at]
end Go.Proofs.Ytegkdbicomedjaa
