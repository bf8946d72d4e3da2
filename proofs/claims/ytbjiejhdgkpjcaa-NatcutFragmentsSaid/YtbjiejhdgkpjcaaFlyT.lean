/- Facts on the types of this program, in the spelling of the small logic. -/
import Derived.Test.YtbjiejhdgkpjcaaFlyMap
import Derived.Test.YtbjiejhdgkpjcaaFlySlice
import Derived.Test.YtbjiejhdgkpjcaaFlyOps3
import Derived.Test.YtbjiejhdgkpjcaaProg
import Derived.KernelRfl
namespace Go.Proofs.Ytbjiejhdgkpjcaa
open Go Fly
set_option linter.unusedSimpArgs false
theorem ar114 : ArT Try.prog 114 2 3 1 [(Value.int IntKind.i64 0), (Value.int IntKind.i64 0)] := ⟨Try.runUnderlying114, Try.sizeOf3, _, Try.zeroValue114, rfl⟩
theorem ar115 : ArT Try.prog 115 2 53 1 [(Value.int IntKind.u32 0), (Value.int IntKind.u32 0)] := ⟨Try.runUnderlying115, Try.sizeOf53, _, Try.zeroValue115, rfl⟩
theorem kt45 : KeyT Try.prog 45 47 4 enc2 := keyStr2 Try.underlying45 Try.underlying47 Try.stoodInHeld47 (by decide) (by decide) rfl rfl Try.underlying3 Try.underlying3
theorem kt71 : KeyT Try.prog 71 47 3 enc2 := keyStr2 Try.underlying71 Try.underlying47 Try.stoodInHeld47 (by decide) (by decide) rfl rfl Try.underlying3 Try.underlying3
theorem kt82 : KeyT Try.prog 82 3 3 (fun x : Int => .int .i64 x) := keyInt Try.underlying82 Try.underlying3
theorem sl22 : SlT Try.prog 22 55 3 := ⟨Try.runUnderlying22, Try.sizeOf55⟩
theorem sl28 : SlT Try.prog 28 47 2 := ⟨Try.runUnderlying28, Try.sizeOf47⟩
theorem sl35 : SlT Try.prog 35 3 1 := ⟨Try.runUnderlying35, Try.sizeOf3⟩
theorem sl42 : SlT Try.prog 42 4 1 := ⟨Try.runUnderlying42, Try.sizeOf4⟩
theorem sl57 : SlT Try.prog 57 62 3 := ⟨Try.runUnderlying57, Try.sizeOf62⟩
theorem sl77 : SlT Try.prog 77 35 1 := ⟨Try.runUnderlying77, Try.sizeOf35⟩
theorem sl93 : SlT Try.prog 93 117 4 := ⟨Try.runUnderlying93, Try.sizeOf117⟩
theorem sl98 : SlT Try.prog 98 53 1 := ⟨Try.runUnderlying98, Try.sizeOf53⟩
theorem st24 : StT Try.prog 24 [(0, 1), (1, 1)] [(Value.int IntKind.i64 0), (Value.slice none 0 0)] := fun vs cs w h => by simp only [Instr.build, Sem.run_bind, Try.zeroValue24, Try.runUnderlying24, Result.andThen_ok, Value.cells, List.mapM_toArray, List.mapM_cons, List.mapM_nil, Try.sizeOf3, Try.sizeOf22, Sem.run_pure, Sem.run_map, bind_pure_comp, map_pure, pure_bind]; simp at h ⊢; simp [h]
theorem st47 : StT Try.prog 47 [(0, 1), (1, 1)] [(Value.int IntKind.i64 0), (Value.int IntKind.i64 0)] := fun vs cs w h => by simp only [Instr.build, Sem.run_bind, Try.zeroValue47, Try.runUnderlying47, Result.andThen_ok, Value.cells, List.mapM_toArray, List.mapM_cons, List.mapM_nil, Try.sizeOf3, Sem.run_pure, Sem.run_map, bind_pure_comp, map_pure, pure_bind]; simp at h ⊢; simp [h]
theorem st55 : StT Try.prog 55 [(0, 1), (1, 1), (2, 1)] [(Value.int IntKind.i64 0), (Value.int IntKind.i64 0), (Value.int IntKind.u32 0)] := fun vs cs w h => by simp only [Instr.build, Sem.run_bind, Try.zeroValue55, Try.runUnderlying55, Result.andThen_ok, Value.cells, List.mapM_toArray, List.mapM_cons, List.mapM_nil, Try.sizeOf3, Try.sizeOf53, Sem.run_pure, Sem.run_map, bind_pure_comp, map_pure, pure_bind]; simp at h ⊢; simp [h]
theorem st59 : StT Try.prog 59 [(0, 1), (1, 1)] [(Value.int IntKind.i64 0), (Value.slice none 0 0)] := fun vs cs w h => by simp only [Instr.build, Sem.run_bind, Try.zeroValue59, Try.runUnderlying59, Result.andThen_ok, Value.cells, List.mapM_toArray, List.mapM_cons, List.mapM_nil, Try.sizeOf3, Try.sizeOf57, Sem.run_pure, Sem.run_map, bind_pure_comp, map_pure, pure_bind]; simp at h ⊢; simp [h]
theorem st62 : StT Try.prog 62 [(0, 1), (1, 1), (2, 1)] [(Value.int IntKind.i64 0), (Value.int IntKind.i64 0), (Value.int IntKind.u32 0)] := fun vs cs w h => by simp only [Instr.build, Sem.run_bind, Try.zeroValue62, Try.runUnderlying62, Result.andThen_ok, Value.cells, List.mapM_toArray, List.mapM_cons, List.mapM_nil, Try.sizeOf3, Try.sizeOf53, Sem.run_pure, Sem.run_map, bind_pure_comp, map_pure, pure_bind]; simp at h ⊢; simp [h]
theorem st95 : StT Try.prog 95 [(0, 1), (1, 1), (2, 1), (3, 1)] [(Value.slice none 0 0), (Value.slice none 0 0), (Value.slice none 0 0), (Value.slice none 0 0)] := fun vs cs w h => by simp only [Instr.build, Sem.run_bind, Try.zeroValue95, Try.runUnderlying95, Result.andThen_ok, Value.cells, List.mapM_toArray, List.mapM_cons, List.mapM_nil, Try.sizeOf35, Try.sizeOf77, Try.sizeOf93, Sem.run_pure, Sem.run_map, bind_pure_comp, map_pure, pure_bind]; simp at h ⊢; simp [h]
theorem st117 : StT Try.prog 117 [(0, 2), (2, 2)] [(Value.int IntKind.i64 0), (Value.int IntKind.i64 0), (Value.int IntKind.u32 0), (Value.int IntKind.u32 0)] := fun vs cs w h => by simp only [Instr.build, Sem.run_bind, Try.zeroValue117, Try.runUnderlying117, Result.andThen_ok, Value.cells, List.mapM_toArray, List.mapM_cons, List.mapM_nil, Try.sizeOf114, Try.sizeOf115, Sem.run_pure, Sem.run_map, bind_pure_comp, map_pure, pure_bind]; simp at h ⊢; simp [h]
theorem el22 : ElT Try.prog 22 55 3 24 [(Value.int IntKind.i64 0), (Value.int IntKind.i64 0), (Value.int IntKind.u32 0)] := ⟨Try.underlying22, by kernel_rfl, rfl, by omega⟩
theorem el28 : ElT Try.prog 28 47 2 16 [(Value.int IntKind.i64 0), (Value.int IntKind.i64 0)] := ⟨Try.underlying28, by kernel_rfl, rfl, by omega⟩
theorem el35 : ElT Try.prog 35 3 1 8 [(Value.int IntKind.i64 0)] := ⟨Try.underlying35, by kernel_rfl, rfl, by omega⟩
theorem el42 : ElT Try.prog 42 4 1 1 [(Value.bool false)] := ⟨Try.underlying42, by kernel_rfl, rfl, by omega⟩
theorem el57 : ElT Try.prog 57 62 3 24 [(Value.int IntKind.i64 0), (Value.int IntKind.i64 0), (Value.int IntKind.u32 0)] := ⟨Try.underlying57, by kernel_rfl, rfl, by omega⟩
theorem el77 : ElT Try.prog 77 35 1 24 [(Value.slice none 0 0)] := ⟨Try.underlying77, by kernel_rfl, rfl, by omega⟩
theorem el93 : ElT Try.prog 93 117 4 24 [(Value.int IntKind.i64 0), (Value.int IntKind.i64 0), (Value.int IntKind.u32 0), (Value.int IntKind.u32 0)] := ⟨Try.underlying93, by kernel_rfl, rfl, by omega⟩
theorem el98 : ElT Try.prog 98 53 1 4 [(Value.int IntKind.u32 0)] := ⟨Try.underlying98, by kernel_rfl, rfl, by omega⟩
theorem fa24_0 : FieldAt Try.prog 24 0 0 := fun b i w => by simp [Instr.fieldAt, Instr.sureAddr, fieldPlace, Try.runUnderlying24, Try.sizeOf3, add_at]
theorem fa24_1 : FieldAt Try.prog 24 1 1 := fun b i w => by simp [Instr.fieldAt, Instr.sureAddr, fieldPlace, Try.runUnderlying24, Try.sizeOf22, add_at]
theorem fa47_0 : FieldAt Try.prog 47 0 0 := fun b i w => by simp [Instr.fieldAt, Instr.sureAddr, fieldPlace, Try.runUnderlying47, Try.sizeOf3, add_at]
theorem fa47_1 : FieldAt Try.prog 47 1 1 := fun b i w => by simp [Instr.fieldAt, Instr.sureAddr, fieldPlace, Try.runUnderlying47, Try.sizeOf3, add_at]
theorem fa55_0 : FieldAt Try.prog 55 0 0 := fun b i w => by simp [Instr.fieldAt, Instr.sureAddr, fieldPlace, Try.runUnderlying55, Try.sizeOf3, add_at]
theorem fa55_1 : FieldAt Try.prog 55 1 1 := fun b i w => by simp [Instr.fieldAt, Instr.sureAddr, fieldPlace, Try.runUnderlying55, Try.sizeOf3, add_at]
theorem fa59_0 : FieldAt Try.prog 59 0 0 := fun b i w => by simp [Instr.fieldAt, Instr.sureAddr, fieldPlace, Try.runUnderlying59, Try.sizeOf3, add_at]
theorem fa59_1 : FieldAt Try.prog 59 1 1 := fun b i w => by simp [Instr.fieldAt, Instr.sureAddr, fieldPlace, Try.runUnderlying59, Try.sizeOf57, add_at]
theorem fa62_0 : FieldAt Try.prog 62 0 0 := fun b i w => by simp [Instr.fieldAt, Instr.sureAddr, fieldPlace, Try.runUnderlying62, Try.sizeOf3, add_at]
theorem fa62_1 : FieldAt Try.prog 62 1 1 := fun b i w => by simp [Instr.fieldAt, Instr.sureAddr, fieldPlace, Try.runUnderlying62, Try.sizeOf3, add_at]
theorem fa62_2 : FieldAt Try.prog 62 2 2 := fun b i w => by simp [Instr.fieldAt, Instr.sureAddr, fieldPlace, Try.runUnderlying62, Try.sizeOf53, add_at]
theorem fa95_0 : FieldAt Try.prog 95 0 0 := fun b i w => by simp [Instr.fieldAt, Instr.sureAddr, fieldPlace, Try.runUnderlying95, Try.sizeOf93, add_at]
theorem fa95_1 : FieldAt Try.prog 95 1 1 := fun b i w => by simp [Instr.fieldAt, Instr.sureAddr, fieldPlace, Try.runUnderlying95, Try.sizeOf77, add_at]
theorem fa95_2 : FieldAt Try.prog 95 2 2 := fun b i w => by simp [Instr.fieldAt, Instr.sureAddr, fieldPlace, Try.runUnderlying95, Try.sizeOf35, add_at]
theorem fa95_3 : FieldAt Try.prog 95 3 3 := fun b i w => by simp [Instr.fieldAt, Instr.sureAddr, fieldPlace, Try.runUnderlying95, Try.sizeOf35, add_at]
theorem fa117_0 : FieldAt Try.prog 117 0 0 := fun b i w => by simp [Instr.fieldAt, Instr.sureAddr, fieldPlace, Try.runUnderlying117, Try.sizeOf114, add_at]
theorem fa117_1 : FieldAt Try.prog 117 1 2 := fun b i w => by simp [Instr.fieldAt, Instr.sureAddr, fieldPlace, Try.runUnderlying117, Try.sizeOf115, add_at]
end Go.Proofs.Ytbjiejhdgkpjcaa
