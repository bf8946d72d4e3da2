/- Facts on the types of this program, in the spelling of the small logic. -/
import Derived.Test.YtjjogcnjcnpehaaGreatFlyMap
import Derived.Test.YtjjogcnjcnpehaaGreatFlySlice
import Derived.Test.YtjjogcnjcnpehaaGreatFlyOps3
import Derived.Test.YtjjogcnjcnpehaaGreatProg
import Derived.KernelRfl
namespace Go.Proofs.YtjjogcnjcnpehaaGreat
open Go Fly
set_option linter.unusedSimpArgs false
theorem ar117 : ArT Tryz.prog 117 2 3 1 [(Value.int IntKind.i64 0), (Value.int IntKind.i64 0)] := ⟨Tryz.runUnderlying117, Tryz.sizeOf3, _, Tryz.zeroValue117, rfl⟩
theorem ar179 : ArT Tryz.prog 179 2 46 1 [(Value.int IntKind.u32 0), (Value.int IntKind.u32 0)] := ⟨Tryz.runUnderlying179, Tryz.sizeOf46, _, Tryz.zeroValue179, rfl⟩
theorem kt86 : KeyT Tryz.prog 86 3 3 (fun x : Int => .int .i64 x) := keyInt Tryz.underlying86 Tryz.underlying3
theorem kt98 : KeyT Tryz.prog 98 95 3 kO := keyStr2 Tryz.underlying98 Tryz.underlying95 Tryz.stoodInHeld95 (by decide) (by decide) rfl rfl Tryz.underlying3 Tryz.underlying3
theorem kt116 : KeyT Tryz.prog 116 117 3 kO := keyArr2 Tryz.underlying116 Tryz.underlying117 Tryz.underlying3 (Option.eq_some_of_isSome (by kernel_rfl)) (by kernel_rfl)
theorem lJ : SlT Tryz.prog 22 48 3 := ⟨Tryz.runUnderlying22, Tryz.sizeOf48⟩
theorem bK : SlT Tryz.prog 25 3 1 := ⟨Tryz.runUnderlying25, Tryz.sizeOf3⟩
theorem gD : SlT Tryz.prog 30 25 1 := ⟨Tryz.runUnderlying30, Tryz.sizeOf25⟩
theorem kW : SlT Tryz.prog 43 4 1 := ⟨Tryz.runUnderlying43, Tryz.sizeOf4⟩
theorem sl56 : SlT Tryz.prog 56 3 1 := ⟨Tryz.runUnderlying56, Tryz.sizeOf3⟩
theorem iB : SlT Tryz.prog 68 95 2 := ⟨Tryz.runUnderlying68, Tryz.sizeOf95⟩
theorem sl76 : SlT Tryz.prog 76 79 3 := ⟨Tryz.runUnderlying76, Tryz.sizeOf79⟩
theorem sl131 : SlT Tryz.prog 131 135 3 := ⟨Tryz.runUnderlying131, Tryz.sizeOf135⟩
theorem sl161 : SlT Tryz.prog 161 181 4 := ⟨Tryz.runUnderlying161, Tryz.sizeOf181⟩
theorem st24 : StT Tryz.prog 24 [(0, 1), (1, 1)] [(Value.int IntKind.i64 0), (Value.slice none 0 0)] := fun vs cs w h => by simp only [Instr.build, Sem.run_bind, Tryz.zeroValue24, Tryz.runUnderlying24, Result.andThen_ok, Value.cells, List.mapM_toArray, List.mapM_cons, List.mapM_nil, Tryz.sizeOf3, Tryz.sizeOf22, Sem.run_pure, Sem.run_map, bind_pure_comp, map_pure, pure_bind]; simp at h ⊢; simp [h]
theorem st32 : StT Tryz.prog 32 [(0, 1), (1, 1)] [(Value.slice none 0 0), (Value.slice none 0 0)] := fun vs cs w h => by simp only [Instr.build, Sem.run_bind, Tryz.zeroValue32, Tryz.runUnderlying32, Result.andThen_ok, Value.cells, List.mapM_toArray, List.mapM_cons, List.mapM_nil, Tryz.sizeOf25, Tryz.sizeOf30, Sem.run_pure, Sem.run_map, bind_pure_comp, map_pure, pure_bind]; simp at h ⊢; simp [h]
theorem st48 : StT Tryz.prog 48 [(0, 1), (1, 1), (2, 1)] [(Value.int IntKind.i64 0), (Value.int IntKind.i64 0), (Value.int IntKind.u32 0)] := fun vs cs w h => by simp only [Instr.build, Sem.run_bind, Tryz.zeroValue48, Tryz.runUnderlying48, Result.andThen_ok, Value.cells, List.mapM_toArray, List.mapM_cons, List.mapM_nil, Tryz.sizeOf3, Tryz.sizeOf46, Sem.run_pure, Sem.run_map, bind_pure_comp, map_pure, pure_bind]; simp at h ⊢; simp [h]
theorem st58 : StT Tryz.prog 58 [(0, 1), (1, 1)] [(Value.slice none 0 0), (Value.int IntKind.i64 0)] := fun vs cs w h => by simp only [Instr.build, Sem.run_bind, Tryz.zeroValue58, Tryz.runUnderlying58, Result.andThen_ok, Value.cells, List.mapM_toArray, List.mapM_cons, List.mapM_nil, Tryz.sizeOf3, Tryz.sizeOf56, Sem.run_pure, Sem.run_map, bind_pure_comp, map_pure, pure_bind]; simp at h ⊢; simp [h]
theorem st79 : StT Tryz.prog 79 [(0, 1), (1, 1), (2, 1)] [(Value.int IntKind.i64 0), (Value.int IntKind.i64 0), (Value.int IntKind.i64 0)] := fun vs cs w h => by simp only [Instr.build, Sem.run_bind, Tryz.zeroValue79, Tryz.runUnderlying79, Result.andThen_ok, Value.cells, List.mapM_toArray, List.mapM_cons, List.mapM_nil, Tryz.sizeOf3, Sem.run_pure, Sem.run_map, bind_pure_comp, map_pure, pure_bind]; simp at h ⊢; simp [h]
theorem st95 : StT Tryz.prog 95 [(0, 1), (1, 1)] [(Value.int IntKind.i64 0), (Value.int IntKind.i64 0)] := fun vs cs w h => by simp only [Instr.build, Sem.run_bind, Tryz.zeroValue95, Tryz.runUnderlying95, Result.andThen_ok, Value.cells, List.mapM_toArray, List.mapM_cons, List.mapM_nil, Tryz.sizeOf3, Sem.run_pure, Sem.run_map, bind_pure_comp, map_pure, pure_bind]; simp at h ⊢; simp [h]
theorem st109 : StT Tryz.prog 109 [(0, 1), (1, 1), (2, 1)] [(Value.int IntKind.i64 0), (Value.int IntKind.i64 0), (Value.int IntKind.i64 0)] := fun vs cs w h => by simp only [Instr.build, Sem.run_bind, Tryz.zeroValue109, Tryz.runUnderlying109, Result.andThen_ok, Value.cells, List.mapM_toArray, List.mapM_cons, List.mapM_nil, Tryz.sizeOf3, Sem.run_pure, Sem.run_map, bind_pure_comp, map_pure, pure_bind]; simp at h ⊢; simp [h]
theorem st114 : StT Tryz.prog 114 [(0, 1), (1, 1), (2, 1)] [(Value.slice none 0 0), (Value.slice none 0 0), (Value.slice none 0 0)] := fun vs cs w h => by simp only [Instr.build, Sem.run_bind, Tryz.zeroValue114, Tryz.runUnderlying114, Result.andThen_ok, Value.cells, List.mapM_toArray, List.mapM_cons, List.mapM_nil, Tryz.sizeOf25, Tryz.sizeOf30, Sem.run_pure, Sem.run_map, bind_pure_comp, map_pure, pure_bind]; simp at h ⊢; simp [h]
theorem st133 : StT Tryz.prog 133 [(0, 1), (1, 1)] [(Value.int IntKind.i64 0), (Value.slice none 0 0)] := fun vs cs w h => by simp only [Instr.build, Sem.run_bind, Tryz.zeroValue133, Tryz.runUnderlying133, Result.andThen_ok, Value.cells, List.mapM_toArray, List.mapM_cons, List.mapM_nil, Tryz.sizeOf3, Tryz.sizeOf131, Sem.run_pure, Sem.run_map, bind_pure_comp, map_pure, pure_bind]; simp at h ⊢; simp [h]
theorem st135 : StT Tryz.prog 135 [(0, 1), (1, 1), (2, 1)] [(Value.int IntKind.i64 0), (Value.int IntKind.i64 0), (Value.int IntKind.u32 0)] := fun vs cs w h => by simp only [Instr.build, Sem.run_bind, Tryz.zeroValue135, Tryz.runUnderlying135, Result.andThen_ok, Value.cells, List.mapM_toArray, List.mapM_cons, List.mapM_nil, Tryz.sizeOf3, Tryz.sizeOf46, Sem.run_pure, Sem.run_map, bind_pure_comp, map_pure, pure_bind]; simp at h ⊢; simp [h]
theorem st163 : StT Tryz.prog 163 [(0, 1), (1, 1), (2, 1), (3, 1)] [(Value.slice none 0 0), (Value.slice none 0 0), (Value.slice none 0 0), (Value.slice none 0 0)] := fun vs cs w h => by simp only [Instr.build, Sem.run_bind, Tryz.zeroValue163, Tryz.runUnderlying163, Result.andThen_ok, Value.cells, List.mapM_toArray, List.mapM_cons, List.mapM_nil, Tryz.sizeOf25, Tryz.sizeOf30, Tryz.sizeOf161, Sem.run_pure, Sem.run_map, bind_pure_comp, map_pure, pure_bind]; simp at h ⊢; simp [h]
theorem st181 : StT Tryz.prog 181 [(0, 2), (2, 2)] [(Value.int IntKind.i64 0), (Value.int IntKind.i64 0), (Value.int IntKind.u32 0), (Value.int IntKind.u32 0)] := fun vs cs w h => by simp only [Instr.build, Sem.run_bind, Tryz.zeroValue181, Tryz.runUnderlying181, Result.andThen_ok, Value.cells, List.mapM_toArray, List.mapM_cons, List.mapM_nil, Tryz.sizeOf117, Tryz.sizeOf179, Sem.run_pure, Sem.run_map, bind_pure_comp, map_pure, pure_bind]; simp at h ⊢; simp [h]
theorem el22 : ElT Tryz.prog 22 48 3 24 [(Value.int IntKind.i64 0), (Value.int IntKind.i64 0), (Value.int IntKind.u32 0)] := ⟨Tryz.underlying22, by kernel_rfl, rfl, by omega⟩
theorem dV : ElT Tryz.prog 25 3 1 8 [(Value.int IntKind.i64 0)] := ⟨Tryz.underlying25, by kernel_rfl, rfl, by omega⟩
theorem el30 : ElT Tryz.prog 30 25 1 24 [(Value.slice none 0 0)] := ⟨Tryz.underlying30, by kernel_rfl, rfl, by omega⟩
theorem el43 : ElT Tryz.prog 43 4 1 1 [(Value.bool false)] := ⟨Tryz.underlying43, by kernel_rfl, rfl, by omega⟩
theorem el68 : ElT Tryz.prog 68 95 2 16 [(Value.int IntKind.i64 0), (Value.int IntKind.i64 0)] := ⟨Tryz.underlying68, by kernel_rfl, rfl, by omega⟩
theorem el76 : ElT Tryz.prog 76 79 3 24 [(Value.int IntKind.i64 0), (Value.int IntKind.i64 0), (Value.int IntKind.i64 0)] := ⟨Tryz.underlying76, by kernel_rfl, rfl, by omega⟩
theorem el131 : ElT Tryz.prog 131 135 3 24 [(Value.int IntKind.i64 0), (Value.int IntKind.i64 0), (Value.int IntKind.u32 0)] := ⟨Tryz.underlying131, by kernel_rfl, rfl, by omega⟩
theorem el161 : ElT Tryz.prog 161 181 4 24 [(Value.int IntKind.i64 0), (Value.int IntKind.i64 0), (Value.int IntKind.u32 0), (Value.int IntKind.u32 0)] := ⟨Tryz.underlying161, by kernel_rfl, rfl, by omega⟩
theorem eE : dP Tryz.prog 24 0 0 := fun b i w => by simp [Instr.fieldAt, Instr.sureAddr, fieldPlace, Tryz.runUnderlying24, Tryz.sizeOf3, cY]
theorem hG : dP Tryz.prog 24 1 1 := fun b i w => by simp [Instr.fieldAt, Instr.sureAddr, fieldPlace, Tryz.runUnderlying24, Tryz.sizeOf22, cY]
theorem fa32_0 : dP Tryz.prog 32 0 0 := fun b i w => by simp [Instr.fieldAt, Instr.sureAddr, fieldPlace, Tryz.runUnderlying32, Tryz.sizeOf25, cY]
theorem iQ : dP Tryz.prog 32 1 1 := fun b i w => by simp [Instr.fieldAt, Instr.sureAddr, fieldPlace, Tryz.runUnderlying32, Tryz.sizeOf30, cY]
theorem gA : dP Tryz.prog 48 0 0 := fun b i w => by simp [Instr.fieldAt, Instr.sureAddr, fieldPlace, Tryz.runUnderlying48, Tryz.sizeOf3, cY]
theorem fX : dP Tryz.prog 48 1 1 := fun b i w => by simp [Instr.fieldAt, Instr.sureAddr, fieldPlace, Tryz.runUnderlying48, Tryz.sizeOf3, cY]
theorem fa48_2 : dP Tryz.prog 48 2 2 := fun b i w => by simp [Instr.fieldAt, Instr.sureAddr, fieldPlace, Tryz.runUnderlying48, Tryz.sizeOf46, cY]
theorem fa58_0 : dP Tryz.prog 58 0 0 := fun b i w => by simp [Instr.fieldAt, Instr.sureAddr, fieldPlace, Tryz.runUnderlying58, Tryz.sizeOf56, cY]
theorem fa58_1 : dP Tryz.prog 58 1 1 := fun b i w => by simp [Instr.fieldAt, Instr.sureAddr, fieldPlace, Tryz.runUnderlying58, Tryz.sizeOf3, cY]
theorem fa79_0 : dP Tryz.prog 79 0 0 := fun b i w => by simp [Instr.fieldAt, Instr.sureAddr, fieldPlace, Tryz.runUnderlying79, Tryz.sizeOf3, cY]
theorem fa79_1 : dP Tryz.prog 79 1 1 := fun b i w => by simp [Instr.fieldAt, Instr.sureAddr, fieldPlace, Tryz.runUnderlying79, Tryz.sizeOf3, cY]
theorem fa79_2 : dP Tryz.prog 79 2 2 := fun b i w => by simp [Instr.fieldAt, Instr.sureAddr, fieldPlace, Tryz.runUnderlying79, Tryz.sizeOf3, cY]
theorem kM : dP Tryz.prog 95 0 0 := fun b i w => by simp [Instr.fieldAt, Instr.sureAddr, fieldPlace, Tryz.runUnderlying95, Tryz.sizeOf3, cY]
theorem fa95_1 : dP Tryz.prog 95 1 1 := fun b i w => by simp [Instr.fieldAt, Instr.sureAddr, fieldPlace, Tryz.runUnderlying95, Tryz.sizeOf3, cY]
theorem fa109_0 : dP Tryz.prog 109 0 0 := fun b i w => by simp [Instr.fieldAt, Instr.sureAddr, fieldPlace, Tryz.runUnderlying109, Tryz.sizeOf3, cY]
theorem fa109_1 : dP Tryz.prog 109 1 1 := fun b i w => by simp [Instr.fieldAt, Instr.sureAddr, fieldPlace, Tryz.runUnderlying109, Tryz.sizeOf3, cY]
theorem fa109_2 : dP Tryz.prog 109 2 2 := fun b i w => by simp [Instr.fieldAt, Instr.sureAddr, fieldPlace, Tryz.runUnderlying109, Tryz.sizeOf3, cY]
theorem jN : dP Tryz.prog 114 0 0 := fun b i w => by simp [Instr.fieldAt, Instr.sureAddr, fieldPlace, Tryz.runUnderlying114, Tryz.sizeOf25, cY]
theorem fa114_1 : dP Tryz.prog 114 1 1 := fun b i w => by simp [Instr.fieldAt, Instr.sureAddr, fieldPlace, Tryz.runUnderlying114, Tryz.sizeOf30, cY]
theorem fa114_2 : dP Tryz.prog 114 2 2 := fun b i w => by simp [Instr.fieldAt, Instr.sureAddr, fieldPlace, Tryz.runUnderlying114, Tryz.sizeOf25, cY]
theorem i8 : dP Tryz.prog 133 0 0 := fun b i w => by simp [Instr.fieldAt, Instr.sureAddr, fieldPlace, Tryz.runUnderlying133, Tryz.sizeOf3, cY]
theorem fa133_1 : dP Tryz.prog 133 1 1 := fun b i w => by simp [Instr.fieldAt, Instr.sureAddr, fieldPlace, Tryz.runUnderlying133, Tryz.sizeOf131, cY]
theorem fa135_0 : dP Tryz.prog 135 0 0 := fun b i w => by simp [Instr.fieldAt, Instr.sureAddr, fieldPlace, Tryz.runUnderlying135, Tryz.sizeOf3, cY]
theorem fa135_1 : dP Tryz.prog 135 1 1 := fun b i w => by simp [Instr.fieldAt, Instr.sureAddr, fieldPlace, Tryz.runUnderlying135, Tryz.sizeOf3, cY]
theorem fa135_2 : dP Tryz.prog 135 2 2 := fun b i w => by simp [Instr.fieldAt, Instr.sureAddr, fieldPlace, Tryz.runUnderlying135, Tryz.sizeOf46, cY]
theorem lY : dP Tryz.prog 163 0 0 := fun b i w => by simp [Instr.fieldAt, Instr.sureAddr, fieldPlace, Tryz.runUnderlying163, Tryz.sizeOf161, cY]
theorem lX : dP Tryz.prog 163 1 1 := fun b i w => by simp [Instr.fieldAt, Instr.sureAddr, fieldPlace, Tryz.runUnderlying163, Tryz.sizeOf30, cY]
theorem i7 : dP Tryz.prog 163 2 2 := fun b i w => by simp [Instr.fieldAt, Instr.sureAddr, fieldPlace, Tryz.runUnderlying163, Tryz.sizeOf25, cY]
theorem fa163_3 : dP Tryz.prog 163 3 3 := fun b i w => by simp [Instr.fieldAt, Instr.sureAddr, fieldPlace, Tryz.runUnderlying163, Tryz.sizeOf25, cY]
theorem fa181_0 : dP Tryz.prog 181 0 0 := fun b i w => by simp [Instr.fieldAt, Instr.sureAddr, fieldPlace, Tryz.runUnderlying181, Tryz.sizeOf117, cY]
theorem fa181_1 : dP Tryz.prog 181 1 2 := fun b i w => by simp [Instr.fieldAt, Instr.sureAddr, fieldPlace, Tryz.runUnderlying181, Tryz.sizeOf179, cY]
end Go.Proofs.YtjjogcnjcnpehaaGreat
