/- Facts on the types of this program, in the spelling of the small logic. -/
import Derived.Test.YtlllpmafhnfihaaFlyMap
import Derived.Test.YtlllpmafhnfihaaFlySlice
import Derived.Test.YtlllpmafhnfihaaFlyOps3
import Derived.Test.YtlllpmafhnfihaaProg
import Derived.KernelRfl
namespace Go.Proofs.Ytlllpmafhnfihaa
open Go Fly
set_option linter.unusedSimpArgs false
theorem kt63 : KeyT Try.prog 63 3 3 (fun x : Int => .int .i64 x) := keyInt Try.underlying63 Try.underlying3
theorem sl22 : SlT Try.prog 22 44 3 := ⟨Try.runUnderlying22, Try.sizeOf44⟩
theorem sl28 : SlT Try.prog 28 3 1 := ⟨Try.runUnderlying28, Try.sizeOf3⟩
theorem sl37 : SlT Try.prog 37 4 1 := ⟨Try.runUnderlying37, Try.sizeOf4⟩
theorem sl45 : SlT Try.prog 45 49 1 := ⟨Try.runUnderlying45, Try.sizeOf49⟩
theorem sl55 : SlT Try.prog 55 28 1 := ⟨Try.runUnderlying55, Try.sizeOf28⟩
theorem sl101 : SlT Try.prog 101 106 2 := ⟨Try.runUnderlying101, Try.sizeOf106⟩
theorem st24 : StT Try.prog 24 [(0, 1), (1, 1)] [(Value.int IntKind.i64 0), (Value.slice none 0 0)] := fun vs cs w h => by simp only [Instr.build, Sem.run_bind, Try.zeroValue24, Try.runUnderlying24, Result.andThen_ok, Value.cells, List.mapM_toArray, List.mapM_cons, List.mapM_nil, Try.sizeOf3, Try.sizeOf22, Sem.run_pure, Sem.run_map, bind_pure_comp, map_pure, pure_bind]; simp at h ⊢; simp [h]
theorem st44 : StT Try.prog 44 [(0, 1), (1, 1), (2, 1)] [(Value.int IntKind.i64 0), (Value.int IntKind.i64 0), (Value.int IntKind.u32 0)] := fun vs cs w h => by simp only [Instr.build, Sem.run_bind, Try.zeroValue44, Try.runUnderlying44, Result.andThen_ok, Value.cells, List.mapM_toArray, List.mapM_cons, List.mapM_nil, Try.sizeOf3, Try.sizeOf42, Sem.run_pure, Sem.run_map, bind_pure_comp, map_pure, pure_bind]; simp at h ⊢; simp [h]
theorem st80 : StT Try.prog 80 [(0, 2), (2, 1), (3, 1), (4, 1), (5, 1), (6, 1)] [(Value.int IntKind.i64 0), (Value.slice none 0 0), (Value.bool false), (Value.slice none 0 0), (Value.slice none 0 0), (Value.slice none 0 0), (Value.pointer none)] := fun vs cs w h => by simp only [Instr.build, Sem.run_bind, Try.zeroValue80, Try.runUnderlying80, Result.andThen_ok, Value.cells, List.mapM_toArray, List.mapM_cons, List.mapM_nil, Try.sizeOf4, Try.sizeOf24, Try.sizeOf28, Try.sizeOf45, Try.sizeOf55, Try.sizeOf78, Sem.run_pure, Sem.run_map, bind_pure_comp, map_pure, pure_bind]; simp at h ⊢; simp [h]
theorem st104 : StT Try.prog 104 [(0, 1), (1, 1), (2, 1)] [(Value.slice none 0 0), (Value.slice none 0 0), Value.nilFunc] := fun vs cs w h => by simp only [Instr.build, Sem.run_bind, Try.zeroValue104, Try.runUnderlying104, Result.andThen_ok, Value.cells, List.mapM_toArray, List.mapM_cons, List.mapM_nil, Try.sizeOf28, Try.sizeOf101, Try.sizeOf102, Sem.run_pure, Sem.run_map, bind_pure_comp, map_pure, pure_bind]; simp at h ⊢; simp [h]
theorem st106 : StT Try.prog 106 [(0, 1), (1, 1)] [(Value.int IntKind.i64 0), (Value.int IntKind.u64 0)] := fun vs cs w h => by simp only [Instr.build, Sem.run_bind, Try.zeroValue106, Try.runUnderlying106, Result.andThen_ok, Value.cells, List.mapM_toArray, List.mapM_cons, List.mapM_nil, Try.sizeOf3, Try.sizeOf49, Sem.run_pure, Sem.run_map, bind_pure_comp, map_pure, pure_bind]; simp at h ⊢; simp [h]
theorem st108 : StT Try.prog 108 [(0, 1)] [(Value.pointer none)] := fun vs cs w h => by simp only [Instr.build, Sem.run_bind, Try.zeroValue108, Try.runUnderlying108, Result.andThen_ok, Value.cells, List.mapM_toArray, List.mapM_cons, List.mapM_nil, Try.sizeOf100, Sem.run_pure, Sem.run_map, bind_pure_comp, map_pure, pure_bind]; simp at h ⊢; simp [h]
theorem el22 : ElT Try.prog 22 44 3 24 [(Value.int IntKind.i64 0), (Value.int IntKind.i64 0), (Value.int IntKind.u32 0)] := ⟨Try.underlying22, by kernel_rfl, rfl, by omega⟩
theorem el28 : ElT Try.prog 28 3 1 8 [(Value.int IntKind.i64 0)] := ⟨Try.underlying28, by kernel_rfl, rfl, by omega⟩
theorem el37 : ElT Try.prog 37 4 1 1 [(Value.bool false)] := ⟨Try.underlying37, by kernel_rfl, rfl, by omega⟩
theorem el45 : ElT Try.prog 45 49 1 8 [(Value.int IntKind.u64 0)] := ⟨Try.underlying45, by kernel_rfl, rfl, by omega⟩
theorem el55 : ElT Try.prog 55 28 1 24 [(Value.slice none 0 0)] := ⟨Try.underlying55, by kernel_rfl, rfl, by omega⟩
theorem el101 : ElT Try.prog 101 106 2 16 [(Value.int IntKind.i64 0), (Value.int IntKind.u64 0)] := ⟨Try.underlying101, by kernel_rfl, rfl, by omega⟩
theorem fa24_0 : FieldAt Try.prog 24 0 0 := fun b i w => by simp [Instr.fieldAt, Instr.sureAddr, fieldPlace, Try.runUnderlying24, Try.sizeOf3, add_at]
theorem fa24_1 : FieldAt Try.prog 24 1 1 := fun b i w => by simp [Instr.fieldAt, Instr.sureAddr, fieldPlace, Try.runUnderlying24, Try.sizeOf22, add_at]
theorem fa44_0 : FieldAt Try.prog 44 0 0 := fun b i w => by simp [Instr.fieldAt, Instr.sureAddr, fieldPlace, Try.runUnderlying44, Try.sizeOf3, add_at]
theorem fa44_1 : FieldAt Try.prog 44 1 1 := fun b i w => by simp [Instr.fieldAt, Instr.sureAddr, fieldPlace, Try.runUnderlying44, Try.sizeOf3, add_at]
theorem fa44_2 : FieldAt Try.prog 44 2 2 := fun b i w => by simp [Instr.fieldAt, Instr.sureAddr, fieldPlace, Try.runUnderlying44, Try.sizeOf42, add_at]
theorem fa80_0 : FieldAt Try.prog 80 0 0 := fun b i w => by simp [Instr.fieldAt, Instr.sureAddr, fieldPlace, Try.runUnderlying80, Try.sizeOf24, add_at]
theorem fa80_1 : FieldAt Try.prog 80 1 2 := fun b i w => by simp [Instr.fieldAt, Instr.sureAddr, fieldPlace, Try.runUnderlying80, Try.sizeOf4, add_at]
theorem fa80_2 : FieldAt Try.prog 80 2 3 := fun b i w => by simp [Instr.fieldAt, Instr.sureAddr, fieldPlace, Try.runUnderlying80, Try.sizeOf55, add_at]
theorem fa80_3 : FieldAt Try.prog 80 3 4 := fun b i w => by simp [Instr.fieldAt, Instr.sureAddr, fieldPlace, Try.runUnderlying80, Try.sizeOf45, add_at]
theorem fa80_4 : FieldAt Try.prog 80 4 5 := fun b i w => by simp [Instr.fieldAt, Instr.sureAddr, fieldPlace, Try.runUnderlying80, Try.sizeOf28, add_at]
theorem fa80_5 : FieldAt Try.prog 80 5 6 := fun b i w => by simp [Instr.fieldAt, Instr.sureAddr, fieldPlace, Try.runUnderlying80, Try.sizeOf78, add_at]
theorem fa104_0 : FieldAt Try.prog 104 0 0 := fun b i w => by simp [Instr.fieldAt, Instr.sureAddr, fieldPlace, Try.runUnderlying104, Try.sizeOf101, add_at]
theorem fa104_1 : FieldAt Try.prog 104 1 1 := fun b i w => by simp [Instr.fieldAt, Instr.sureAddr, fieldPlace, Try.runUnderlying104, Try.sizeOf28, add_at]
theorem fa104_2 : FieldAt Try.prog 104 2 2 := fun b i w => by simp [Instr.fieldAt, Instr.sureAddr, fieldPlace, Try.runUnderlying104, Try.sizeOf102, add_at]
theorem fa106_0 : FieldAt Try.prog 106 0 0 := fun b i w => by simp [Instr.fieldAt, Instr.sureAddr, fieldPlace, Try.runUnderlying106, Try.sizeOf3, add_at]
theorem fa106_1 : FieldAt Try.prog 106 1 1 := fun b i w => by simp [Instr.fieldAt, Instr.sureAddr, fieldPlace, Try.runUnderlying106, Try.sizeOf49, add_at]
theorem fa108_0 : FieldAt Try.prog 108 0 0 := fun b i w => by simp [Instr.fieldAt, Instr.sureAddr, fieldPlace, Try.runUnderlying108, Try.sizeOf100, add_at]
end Go.Proofs.Ytlllpmafhnfihaa
