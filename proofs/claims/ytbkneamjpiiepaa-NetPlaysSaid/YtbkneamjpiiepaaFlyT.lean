/- Facts on the types of this program, in the spelling of the small logic. -/
import Derived.Test.YtbkneamjpiiepaaFlyMap
import Derived.Test.YtbkneamjpiiepaaFlySlice
import Derived.Test.YtbkneamjpiiepaaFlyOps3
import Derived.Test.YtbkneamjpiiepaaProg
import Derived.KernelRfl
namespace Go.Proofs.Ytbkneamjpiiepaa
open Go Fly
set_option linter.unusedSimpArgs false
theorem ar60 : ArT Try.prog 60 2 3 1 [(Value.int IntKind.i64 0), (Value.int IntKind.i64 0)] := ⟨Try.runUnderlying60, Try.sizeOf3, _, Try.zeroValue60, rfl⟩
theorem ar61 : ArT Try.prog 61 2 3 1 [(Value.int IntKind.i64 0), (Value.int IntKind.i64 0)] := ⟨Try.runUnderlying61, Try.sizeOf3, _, Try.zeroValue61, rfl⟩
theorem kt57 : KeyT Try.prog 57 61 32 enc2 := keyArr2 Try.underlying57 Try.underlying61 Try.underlying3 (Option.eq_some_of_isSome (by kernel_rfl)) (by kernel_rfl)
theorem sl32 : SlT Try.prog 32 9 1 := ⟨Try.runUnderlying32, Try.sizeOf9⟩
theorem sl36 : SlT Try.prog 36 41 3 := ⟨Try.runUnderlying36, Try.sizeOf41⟩
theorem sl43 : SlT Try.prog 43 45 5 := ⟨Try.runUnderlying43, Try.sizeOf45⟩
theorem sl48 : SlT Try.prog 48 60 2 := ⟨Try.runUnderlying48, Try.sizeOf60⟩
theorem sl56 : SlT Try.prog 56 4 1 := ⟨Try.runUnderlying56, Try.sizeOf4⟩
theorem sl74 : SlT Try.prog 74 3 1 := ⟨Try.runUnderlying74, Try.sizeOf3⟩
theorem sl76 : SlT Try.prog 76 89 3 := ⟨Try.runUnderlying76, Try.sizeOf89⟩
theorem st41 : StT Try.prog 41 [(0, 1), (1, 1), (2, 1)] [(Value.int IntKind.i64 0), (Value.int IntKind.i64 0), (Value.int IntKind.i64 0)] := fun vs cs w h => by simp only [Instr.build, Sem.run_bind, Try.zeroValue41, Try.runUnderlying41, Result.andThen_ok, Value.cells, List.mapM_toArray, List.mapM_cons, List.mapM_nil, Try.sizeOf3, Sem.run_pure, Sem.run_map, bind_pure_comp, map_pure, pure_bind]; simp at h ⊢; simp [h]
theorem st59 : StT Try.prog 59 [(0, 1), (1, 1), (2, 1), (3, 1)] [(Value.slice none 0 0), (Value.map none), (Value.slice none 0 0), (Value.int IntKind.i64 0)] := fun vs cs w h => by simp only [Instr.build, Sem.run_bind, Try.zeroValue59, Try.runUnderlying59, Result.andThen_ok, Value.cells, List.mapM_toArray, List.mapM_cons, List.mapM_nil, Try.sizeOf3, Try.sizeOf36, Try.sizeOf56, Try.sizeOf57, Sem.run_pure, Sem.run_map, bind_pure_comp, map_pure, pure_bind]; simp at h ⊢; simp [h]
theorem st78 : StT Try.prog 78 [(0, 1), (1, 1), (2, 1), (3, 1)] [(Value.slice none 0 0), (Value.slice none 0 0), (Value.slice none 0 0), (Value.int IntKind.i64 0)] := fun vs cs w h => by simp only [Instr.build, Sem.run_bind, Try.zeroValue78, Try.runUnderlying78, Result.andThen_ok, Value.cells, List.mapM_toArray, List.mapM_cons, List.mapM_nil, Try.sizeOf3, Try.sizeOf36, Try.sizeOf56, Try.sizeOf76, Sem.run_pure, Sem.run_map, bind_pure_comp, map_pure, pure_bind]; simp at h ⊢; simp [h]
theorem st89 : StT Try.prog 89 [(0, 1), (1, 1), (2, 1)] [(Value.int IntKind.i64 0), (Value.int IntKind.i64 0), (Value.string (ByteArray.mk #[]))] := fun vs cs w h => by simp only [Instr.build, Sem.run_bind, Try.zeroValue89, Try.runUnderlying89, Result.andThen_ok, Value.cells, List.mapM_toArray, List.mapM_cons, List.mapM_nil, Try.sizeOf3, Try.sizeOf9, Sem.run_pure, Sem.run_map, bind_pure_comp, map_pure, pure_bind]; simp at h ⊢; simp [h]
theorem el32 : ElT Try.prog 32 9 1 16 [(Value.string (ByteArray.mk #[]))] := ⟨Try.underlying32, by kernel_rfl, rfl, by omega⟩
theorem el36 : ElT Try.prog 36 41 3 24 [(Value.int IntKind.i64 0), (Value.int IntKind.i64 0), (Value.int IntKind.i64 0)] := ⟨Try.underlying36, by kernel_rfl, rfl, by omega⟩
theorem el48 : ElT Try.prog 48 60 2 16 [(Value.int IntKind.i64 0), (Value.int IntKind.i64 0)] := ⟨Try.underlying48, by kernel_rfl, rfl, by omega⟩
theorem el56 : ElT Try.prog 56 4 1 1 [(Value.bool false)] := ⟨Try.underlying56, by kernel_rfl, rfl, by omega⟩
theorem el74 : ElT Try.prog 74 3 1 8 [(Value.int IntKind.i64 0)] := ⟨Try.underlying74, by kernel_rfl, rfl, by omega⟩
theorem el76 : ElT Try.prog 76 89 3 32 [(Value.int IntKind.i64 0), (Value.int IntKind.i64 0), (Value.string (ByteArray.mk #[]))] := ⟨Try.underlying76, by kernel_rfl, rfl, by omega⟩
theorem fa41_0 : FieldAt Try.prog 41 0 0 := fun b i w => by simp [Instr.fieldAt, Instr.sureAddr, fieldPlace, Try.runUnderlying41, Try.sizeOf3, add_at]
theorem fa41_1 : FieldAt Try.prog 41 1 1 := fun b i w => by simp [Instr.fieldAt, Instr.sureAddr, fieldPlace, Try.runUnderlying41, Try.sizeOf3, add_at]
theorem fa45_0 : FieldAt Try.prog 45 0 0 := fun b i w => by simp [Instr.fieldAt, Instr.sureAddr, fieldPlace, Try.runUnderlying45, Try.sizeOf3, add_at]
theorem fa45_1 : FieldAt Try.prog 45 1 1 := fun b i w => by simp [Instr.fieldAt, Instr.sureAddr, fieldPlace, Try.runUnderlying45, Try.sizeOf3, add_at]
theorem fa45_2 : FieldAt Try.prog 45 2 2 := fun b i w => by simp [Instr.fieldAt, Instr.sureAddr, fieldPlace, Try.runUnderlying45, Try.sizeOf3, add_at]
theorem fa45_3 : FieldAt Try.prog 45 3 3 := fun b i w => by simp [Instr.fieldAt, Instr.sureAddr, fieldPlace, Try.runUnderlying45, Try.sizeOf3, add_at]
theorem fa45_4 : FieldAt Try.prog 45 4 4 := fun b i w => by simp [Instr.fieldAt, Instr.sureAddr, fieldPlace, Try.runUnderlying45, Try.sizeOf9, add_at]
theorem fa59_0 : FieldAt Try.prog 59 0 0 := fun b i w => by simp [Instr.fieldAt, Instr.sureAddr, fieldPlace, Try.runUnderlying59, Try.sizeOf56, add_at]
theorem fa59_1 : FieldAt Try.prog 59 1 1 := fun b i w => by simp [Instr.fieldAt, Instr.sureAddr, fieldPlace, Try.runUnderlying59, Try.sizeOf57, add_at]
theorem fa59_2 : FieldAt Try.prog 59 2 2 := fun b i w => by simp [Instr.fieldAt, Instr.sureAddr, fieldPlace, Try.runUnderlying59, Try.sizeOf36, add_at]
theorem fa59_3 : FieldAt Try.prog 59 3 3 := fun b i w => by simp [Instr.fieldAt, Instr.sureAddr, fieldPlace, Try.runUnderlying59, Try.sizeOf3, add_at]
theorem fa78_0 : FieldAt Try.prog 78 0 0 := fun b i w => by simp [Instr.fieldAt, Instr.sureAddr, fieldPlace, Try.runUnderlying78, Try.sizeOf56, add_at]
theorem fa78_1 : FieldAt Try.prog 78 1 1 := fun b i w => by simp [Instr.fieldAt, Instr.sureAddr, fieldPlace, Try.runUnderlying78, Try.sizeOf76, add_at]
theorem fa78_2 : FieldAt Try.prog 78 2 2 := fun b i w => by simp [Instr.fieldAt, Instr.sureAddr, fieldPlace, Try.runUnderlying78, Try.sizeOf36, add_at]
theorem fa78_3 : FieldAt Try.prog 78 3 3 := fun b i w => by simp [Instr.fieldAt, Instr.sureAddr, fieldPlace, Try.runUnderlying78, Try.sizeOf3, add_at]
theorem fa89_0 : FieldAt Try.prog 89 0 0 := fun b i w => by simp [Instr.fieldAt, Instr.sureAddr, fieldPlace, Try.runUnderlying89, Try.sizeOf3, add_at]
theorem fa89_1 : FieldAt Try.prog 89 1 1 := fun b i w => by simp [Instr.fieldAt, Instr.sureAddr, fieldPlace, Try.runUnderlying89, Try.sizeOf3, add_at]
theorem fa89_2 : FieldAt Try.prog 89 2 2 := fun b i w => by simp [Instr.fieldAt, Instr.sureAddr, fieldPlace, Try.runUnderlying89, Try.sizeOf9, add_at]
end Go.Proofs.Ytbkneamjpiiepaa
