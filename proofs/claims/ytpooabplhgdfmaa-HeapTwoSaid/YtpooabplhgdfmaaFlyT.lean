/- Facts on the types of this program, in the spelling of the small logic. -/
import Derived.Test.YtpooabplhgdfmaaFlyMap
import Derived.Test.YtpooabplhgdfmaaFlySlice
import Derived.Test.YtpooabplhgdfmaaFlyOps2
import Derived.Test.YtpooabplhgdfmaaProg
import Derived.KernelRfl
namespace Go.Proofs.Ytpooabplhgdfmaa
open Go Fly
set_option linter.unusedSimpArgs false
theorem sl22 : SlT Try.prog 22 29 1 := ⟨Try.runUnderlying22, Try.sizeOf29⟩
theorem sl30 : SlT Try.prog 30 4 1 := ⟨Try.runUnderlying30, Try.sizeOf4⟩
theorem sl37 : SlT Try.prog 37 40 3 := ⟨Try.runUnderlying37, Try.sizeOf40⟩
theorem sl51 : SlT Try.prog 51 3 1 := ⟨Try.runUnderlying51, Try.sizeOf3⟩
theorem sl52 : SlT Try.prog 52 57 2 := ⟨Try.runUnderlying52, Try.sizeOf57⟩
theorem st55 : StT Try.prog 55 [(0, 1), (1, 1), (2, 1)] [(Value.slice none 0 0), (Value.slice none 0 0), Value.nilFunc] := fun vs cs w h => by simp only [Instr.build, Sem.run_bind, Try.zeroValue55, Try.runUnderlying55, Result.andThen_ok, Value.cells, List.mapM_toArray, List.mapM_cons, List.mapM_nil, Try.sizeOf51, Try.sizeOf52, Try.sizeOf53, Sem.run_pure, Sem.run_map, bind_pure_comp, map_pure, pure_bind]; simp at h ⊢; simp [h]
theorem st57 : StT Try.prog 57 [(0, 1), (1, 1)] [(Value.int IntKind.i64 0), (Value.int IntKind.u64 0)] := fun vs cs w h => by simp only [Instr.build, Sem.run_bind, Try.zeroValue57, Try.runUnderlying57, Result.andThen_ok, Value.cells, List.mapM_toArray, List.mapM_cons, List.mapM_nil, Try.sizeOf3, Try.sizeOf29, Sem.run_pure, Sem.run_map, bind_pure_comp, map_pure, pure_bind]; simp at h ⊢; simp [h]
theorem st59 : StT Try.prog 59 [(0, 1)] [(Value.pointer none)] := fun vs cs w h => by simp only [Instr.build, Sem.run_bind, Try.zeroValue59, Try.runUnderlying59, Result.andThen_ok, Value.cells, List.mapM_toArray, List.mapM_cons, List.mapM_nil, Try.sizeOf50, Sem.run_pure, Sem.run_map, bind_pure_comp, map_pure, pure_bind]; simp at h ⊢; simp [h]
theorem st66 : StT Try.prog 66 [(0, 1), (1, 1)] [(Value.slice none 0 0), (Value.slice none 0 0)] := fun vs cs w h => by simp only [Instr.build, Sem.run_bind, Try.zeroValue66, Try.runUnderlying66, Result.andThen_ok, Value.cells, List.mapM_toArray, List.mapM_cons, List.mapM_nil, Try.sizeOf22, Try.sizeOf30, Sem.run_pure, Sem.run_map, bind_pure_comp, map_pure, pure_bind]; simp at h ⊢; simp [h]
theorem el22 : ElT Try.prog 22 29 1 8 [(Value.int IntKind.u64 0)] := ⟨Try.underlying22, by kernel_rfl, rfl, by omega⟩
theorem el30 : ElT Try.prog 30 4 1 1 [(Value.bool false)] := ⟨Try.underlying30, by kernel_rfl, rfl, by omega⟩
theorem el51 : ElT Try.prog 51 3 1 8 [(Value.int IntKind.i64 0)] := ⟨Try.underlying51, by kernel_rfl, rfl, by omega⟩
theorem el52 : ElT Try.prog 52 57 2 16 [(Value.int IntKind.i64 0), (Value.int IntKind.u64 0)] := ⟨Try.underlying52, by kernel_rfl, rfl, by omega⟩
theorem fa40_0 : FieldAt Try.prog 40 0 0 := fun b i w => by simp [Instr.fieldAt, Instr.sureAddr, fieldPlace, Try.runUnderlying40, Try.sizeOf3, add_at]
theorem fa40_1 : FieldAt Try.prog 40 1 1 := fun b i w => by simp [Instr.fieldAt, Instr.sureAddr, fieldPlace, Try.runUnderlying40, Try.sizeOf3, add_at]
theorem fa40_2 : FieldAt Try.prog 40 2 2 := fun b i w => by simp [Instr.fieldAt, Instr.sureAddr, fieldPlace, Try.runUnderlying40, Try.sizeOf29, add_at]
theorem fa55_0 : FieldAt Try.prog 55 0 0 := fun b i w => by simp [Instr.fieldAt, Instr.sureAddr, fieldPlace, Try.runUnderlying55, Try.sizeOf52, add_at]
theorem fa55_1 : FieldAt Try.prog 55 1 1 := fun b i w => by simp [Instr.fieldAt, Instr.sureAddr, fieldPlace, Try.runUnderlying55, Try.sizeOf51, add_at]
theorem fa55_2 : FieldAt Try.prog 55 2 2 := fun b i w => by simp [Instr.fieldAt, Instr.sureAddr, fieldPlace, Try.runUnderlying55, Try.sizeOf53, add_at]
theorem fa57_0 : FieldAt Try.prog 57 0 0 := fun b i w => by simp [Instr.fieldAt, Instr.sureAddr, fieldPlace, Try.runUnderlying57, Try.sizeOf3, add_at]
theorem fa57_1 : FieldAt Try.prog 57 1 1 := fun b i w => by simp [Instr.fieldAt, Instr.sureAddr, fieldPlace, Try.runUnderlying57, Try.sizeOf29, add_at]
theorem fa59_0 : FieldAt Try.prog 59 0 0 := fun b i w => by simp [Instr.fieldAt, Instr.sureAddr, fieldPlace, Try.runUnderlying59, Try.sizeOf50, add_at]
theorem fa66_0 : FieldAt Try.prog 66 0 0 := fun b i w => by simp [Instr.fieldAt, Instr.sureAddr, fieldPlace, Try.runUnderlying66, Try.sizeOf30, add_at]
theorem fa66_1 : FieldAt Try.prog 66 1 1 := fun b i w => by simp [Instr.fieldAt, Instr.sureAddr, fieldPlace, Try.runUnderlying66, Try.sizeOf22, add_at]
end Go.Proofs.Ytpooabplhgdfmaa
