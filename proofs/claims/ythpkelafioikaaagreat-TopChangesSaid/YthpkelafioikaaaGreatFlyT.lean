import Derived.Test.YthpkelafioikaaaGreatFlyRun
import Derived.Test.YthpkelafioikaaaGreatFlyMap
import Derived.Test.YthpkelafioikaaaGreatFlySlice
import Derived.Test.YthpkelafioikaaaGreatFlyOps3
import Derived.Test.YthpkelafioikaaaGreatProg
import Derived.KernelRfl
namespace Go.Proofs.YthpkelafioikaaaGreat
open Go Fly
set_option linter.unusedSimpArgs false
theorem ar237:ArT Tryz.prog 237 2 3 1 [(Value.int IntKind.i64 0),(Value.int IntKind.i64 0)]:=⟨Tryz.runUnderlying237,Tryz.sizeOf3,_,Tryz.zeroValue237,rfl⟩
theorem ar299:ArT Tryz.prog 299 2 56 1 [(Value.int IntKind.u32 0),(Value.int IntKind.u32 0)]:=⟨Tryz.runUnderlying299,Tryz.sizeOf56,_,Tryz.zeroValue299,rfl⟩
theorem pN:KeyT Tryz.prog 103 3 114 (fun x:Int=> .int .i64 x):=keyInt Tryz.underlying103 Tryz.underlying3
theorem kt201:KeyT Tryz.prog 201 3 3 (fun x:Int=> .int .i64 x):=keyInt Tryz.underlying201 Tryz.underlying3
theorem kt218:KeyT Tryz.prog 218 215 3 oS:=keyStr2 Tryz.underlying218 Tryz.underlying215 Tryz.stoodInHeld215 (by decide) (by decide) rfl rfl Tryz.underlying3 Tryz.underlying3
theorem kt236:KeyT Tryz.prog 236 237 3 oS:=keyArr2 Tryz.underlying236 Tryz.underlying237 Tryz.underlying3 (Option.eq_some_of_isSome (by kernel_rfl)) (by kernel_rfl)
theorem kt257:KeyT Tryz.prog 257 3 258 (fun x:Int=> .int .i64 x):=keyInt Tryz.underlying257 Tryz.underlying3
theorem jB:SlT Tryz.prog 22 69 3:=⟨Tryz.runUnderlying22,Tryz.sizeOf69⟩
theorem bX:SlT Tryz.prog 25 3 1:=⟨Tryz.runUnderlying25,Tryz.sizeOf3⟩
theorem gL:SlT Tryz.prog 32 25 1:=⟨Tryz.runUnderlying32,Tryz.sizeOf25⟩
theorem o9:SlT Tryz.prog 37 4 1:=⟨Tryz.runUnderlying37,Tryz.sizeOf4⟩
theorem mS:SlT Tryz.prog 41 46 1:=⟨Tryz.runUnderlying41,Tryz.sizeOf46⟩
theorem sl50:SlT Tryz.prog 50 58 2:=⟨Tryz.runUnderlying50,Tryz.sizeOf58⟩
theorem sl53:SlT Tryz.prog 53 141 1:=⟨Tryz.runUnderlying53,Tryz.sizeOf141⟩
theorem sl114:SlT Tryz.prog 114 113 2:=⟨Tryz.runUnderlying114,Tryz.sizeOf113⟩
theorem sl141:SlT Tryz.prog 141 138 4:=⟨Tryz.runUnderlying141,Tryz.sizeOf138⟩
theorem h7:SlT Tryz.prog 154 215 2:=⟨Tryz.runUnderlying154,Tryz.sizeOf215⟩
theorem sl162:SlT Tryz.prog 162 165 3:=⟨Tryz.runUnderlying162,Tryz.sizeOf165⟩
theorem sl169:SlT Tryz.prog 169 3 1:=⟨Tryz.runUnderlying169,Tryz.sizeOf3⟩
theorem jK:SlT Tryz.prog 188 193 2:=⟨Tryz.runUnderlying188,Tryz.sizeOf193⟩
theorem sl204:SlT Tryz.prog 204 56 1:=⟨Tryz.runUnderlying204,Tryz.sizeOf56⟩
theorem sl258:SlT Tryz.prog 258 260 2:=⟨Tryz.runUnderlying258,Tryz.sizeOf260⟩
theorem sl263:SlT Tryz.prog 263 267 3:=⟨Tryz.runUnderlying263,Tryz.sizeOf267⟩
theorem sl288:SlT Tryz.prog 288 301 4:=⟨Tryz.runUnderlying288,Tryz.sizeOf301⟩
theorem st24:StT Tryz.prog 24 [(0,1),(1,1)] [(Value.int IntKind.i64 0),(Value.slice none 0 0)]:=fun vs cs w h=>by simp only [Instr.build,Sem.run_bind,Tryz.zeroValue24,Tryz.runUnderlying24,Result.andThen_ok,Value.cells,List.mapM_toArray,List.mapM_cons,List.mapM_nil,Tryz.sizeOf3,Tryz.sizeOf22,Sem.run_pure,Sem.run_map,bind_pure_comp,map_pure,pure_bind];simp at h ⊢;simp [h]
theorem st34:StT Tryz.prog 34 [(0,1),(1,1)] [(Value.slice none 0 0),(Value.slice none 0 0)]:=fun vs cs w h=>by simp only [Instr.build,Sem.run_bind,Tryz.zeroValue34,Tryz.runUnderlying34,Result.andThen_ok,Value.cells,List.mapM_toArray,List.mapM_cons,List.mapM_nil,Tryz.sizeOf25,Tryz.sizeOf32,Sem.run_pure,Sem.run_map,bind_pure_comp,map_pure,pure_bind];simp at h ⊢;simp [h]
theorem st69:StT Tryz.prog 69 [(0,1),(1,1),(2,1)] [(Value.int IntKind.i64 0),(Value.int IntKind.i64 0),(Value.int IntKind.u32 0)]:=fun vs cs w h=>by simp only [Instr.build,Sem.run_bind,Tryz.zeroValue69,Tryz.runUnderlying69,Result.andThen_ok,Value.cells,List.mapM_toArray,List.mapM_cons,List.mapM_nil,Tryz.sizeOf3,Tryz.sizeOf56,Sem.run_pure,Sem.run_map,bind_pure_comp,map_pure,pure_bind];simp at h ⊢;simp [h]
theorem st81:StT Tryz.prog 81 [(0,2),(2,1),(3,1),(4,1),(5,1),(6,1)] [(Value.int IntKind.i64 0),(Value.slice none 0 0),(Value.bool false),(Value.slice none 0 0),(Value.slice none 0 0),(Value.slice none 0 0),(Value.pointer none)]:=fun vs cs w h=>by simp only [Instr.build,Sem.run_bind,Tryz.zeroValue81,Tryz.runUnderlying81,Result.andThen_ok,Value.cells,List.mapM_toArray,List.mapM_cons,List.mapM_nil,Tryz.sizeOf4,Tryz.sizeOf24,Tryz.sizeOf25,Tryz.sizeOf32,Tryz.sizeOf41,Tryz.sizeOf79,Sem.run_pure,Sem.run_map,bind_pure_comp,map_pure,pure_bind];simp at h ⊢;simp [h]
theorem st101:StT Tryz.prog 101 [(0,2),(2,1),(3,1)] [(Value.slice none 0 0),(Value.slice none 0 0),(Value.int IntKind.i64 0),(Value.int IntKind.i64 0)]:=fun vs cs w h=>by simp only [Instr.build,Sem.run_bind,Tryz.zeroValue101,Tryz.runUnderlying101,Result.andThen_ok,Value.cells,List.mapM_toArray,List.mapM_cons,List.mapM_nil,Tryz.sizeOf3,Tryz.sizeOf34,Sem.run_pure,Sem.run_map,bind_pure_comp,map_pure,pure_bind];simp at h ⊢;simp [h]
theorem st105:StT Tryz.prog 105 [(0,1),(1,1)] [(Value.map none),(Value.map none)]:=fun vs cs w h=>by simp only [Instr.build,Sem.run_bind,Tryz.zeroValue105,Tryz.runUnderlying105,Result.andThen_ok,Value.cells,List.mapM_toArray,List.mapM_cons,List.mapM_nil,Tryz.sizeOf103,Sem.run_pure,Sem.run_map,bind_pure_comp,map_pure,pure_bind];simp at h ⊢;simp [h]
theorem st113:StT Tryz.prog 113 [(0,1),(1,1)] [(Value.int IntKind.i64 0),(Value.int IntKind.u64 0)]:=fun vs cs w h=>by simp only [Instr.build,Sem.run_bind,Tryz.zeroValue113,Tryz.runUnderlying113,Result.andThen_ok,Value.cells,List.mapM_toArray,List.mapM_cons,List.mapM_nil,Tryz.sizeOf3,Tryz.sizeOf46,Sem.run_pure,Sem.run_map,bind_pure_comp,map_pure,pure_bind];simp at h ⊢;simp [h]
theorem st138:StT Tryz.prog 138 [(0,1),(1,1),(2,1),(3,1)] [(Value.int IntKind.i64 0),(Value.int IntKind.i64 0),(Value.int IntKind.i64 0),(Value.slice none 0 0)]:=fun vs cs w h=>by simp only [Instr.build,Sem.run_bind,Tryz.zeroValue138,Tryz.runUnderlying138,Result.andThen_ok,Value.cells,List.mapM_toArray,List.mapM_cons,List.mapM_nil,Tryz.sizeOf3,Tryz.sizeOf41,Sem.run_pure,Sem.run_map,bind_pure_comp,map_pure,pure_bind];simp at h ⊢;simp [h]
theorem st153:StT Tryz.prog 153 [(0,1),(1,1),(2,1)] [Value.nilIface,(Value.slice none 0 0),(Value.pointer none)]:=fun vs cs w h=>by simp only [Instr.build,Sem.run_bind,Tryz.zeroValue153,Tryz.runUnderlying153,Result.andThen_ok,Value.cells,List.mapM_toArray,List.mapM_cons,List.mapM_nil,Tryz.sizeOf41,Tryz.sizeOf79,Tryz.sizeOf151,Sem.run_pure,Sem.run_map,bind_pure_comp,map_pure,pure_bind];simp at h ⊢;simp [h]
theorem st165:StT Tryz.prog 165 [(0,1),(1,1),(2,1)] [(Value.int IntKind.i64 0),(Value.int IntKind.i64 0),(Value.int IntKind.i64 0)]:=fun vs cs w h=>by simp only [Instr.build,Sem.run_bind,Tryz.zeroValue165,Tryz.runUnderlying165,Result.andThen_ok,Value.cells,List.mapM_toArray,List.mapM_cons,List.mapM_nil,Tryz.sizeOf3,Sem.run_pure,Sem.run_map,bind_pure_comp,map_pure,pure_bind];simp at h ⊢;simp [h]
theorem st171:StT Tryz.prog 171 [(0,1),(1,1)] [(Value.slice none 0 0),(Value.int IntKind.i64 0)]:=fun vs cs w h=>by simp only [Instr.build,Sem.run_bind,Tryz.zeroValue171,Tryz.runUnderlying171,Result.andThen_ok,Value.cells,List.mapM_toArray,List.mapM_cons,List.mapM_nil,Tryz.sizeOf3,Tryz.sizeOf169,Sem.run_pure,Sem.run_map,bind_pure_comp,map_pure,pure_bind];simp at h ⊢;simp [h]
theorem st191:StT Tryz.prog 191 [(0,1),(1,1),(2,1)] [(Value.slice none 0 0),(Value.slice none 0 0),Value.nilFunc]:=fun vs cs w h=>by simp only [Instr.build,Sem.run_bind,Tryz.zeroValue191,Tryz.runUnderlying191,Result.andThen_ok,Value.cells,List.mapM_toArray,List.mapM_cons,List.mapM_nil,Tryz.sizeOf25,Tryz.sizeOf188,Tryz.sizeOf189,Sem.run_pure,Sem.run_map,bind_pure_comp,map_pure,pure_bind];simp at h ⊢;simp [h]
theorem st193:StT Tryz.prog 193 [(0,1),(1,1)] [(Value.int IntKind.i64 0),(Value.int IntKind.u64 0)]:=fun vs cs w h=>by simp only [Instr.build,Sem.run_bind,Tryz.zeroValue193,Tryz.runUnderlying193,Result.andThen_ok,Value.cells,List.mapM_toArray,List.mapM_cons,List.mapM_nil,Tryz.sizeOf3,Tryz.sizeOf46,Sem.run_pure,Sem.run_map,bind_pure_comp,map_pure,pure_bind];simp at h ⊢;simp [h]
theorem st195:StT Tryz.prog 195 [(0,1)] [(Value.pointer none)]:=fun vs cs w h=>by simp only [Instr.build,Sem.run_bind,Tryz.zeroValue195,Tryz.runUnderlying195,Result.andThen_ok,Value.cells,List.mapM_toArray,List.mapM_cons,List.mapM_nil,Tryz.sizeOf187,Sem.run_pure,Sem.run_map,bind_pure_comp,map_pure,pure_bind];simp at h ⊢;simp [h]
theorem st215:StT Tryz.prog 215 [(0,1),(1,1)] [(Value.int IntKind.i64 0),(Value.int IntKind.i64 0)]:=fun vs cs w h=>by simp only [Instr.build,Sem.run_bind,Tryz.zeroValue215,Tryz.runUnderlying215,Result.andThen_ok,Value.cells,List.mapM_toArray,List.mapM_cons,List.mapM_nil,Tryz.sizeOf3,Sem.run_pure,Sem.run_map,bind_pure_comp,map_pure,pure_bind];simp at h ⊢;simp [h]
theorem st229:StT Tryz.prog 229 [(0,1),(1,1),(2,1)] [(Value.int IntKind.i64 0),(Value.int IntKind.i64 0),(Value.int IntKind.i64 0)]:=fun vs cs w h=>by simp only [Instr.build,Sem.run_bind,Tryz.zeroValue229,Tryz.runUnderlying229,Result.andThen_ok,Value.cells,List.mapM_toArray,List.mapM_cons,List.mapM_nil,Tryz.sizeOf3,Sem.run_pure,Sem.run_map,bind_pure_comp,map_pure,pure_bind];simp at h ⊢;simp [h]
theorem st234:StT Tryz.prog 234 [(0,1),(1,1),(2,1)] [(Value.slice none 0 0),(Value.slice none 0 0),(Value.slice none 0 0)]:=fun vs cs w h=>by simp only [Instr.build,Sem.run_bind,Tryz.zeroValue234,Tryz.runUnderlying234,Result.andThen_ok,Value.cells,List.mapM_toArray,List.mapM_cons,List.mapM_nil,Tryz.sizeOf25,Tryz.sizeOf32,Sem.run_pure,Sem.run_map,bind_pure_comp,map_pure,pure_bind];simp at h ⊢;simp [h]
theorem st260:StT Tryz.prog 260 [(0,1),(1,1)] [(Value.int IntKind.i64 0),(Value.int IntKind.u64 0)]:=fun vs cs w h=>by simp only [Instr.build,Sem.run_bind,Tryz.zeroValue260,Tryz.runUnderlying260,Result.andThen_ok,Value.cells,List.mapM_toArray,List.mapM_cons,List.mapM_nil,Tryz.sizeOf3,Tryz.sizeOf46,Sem.run_pure,Sem.run_map,bind_pure_comp,map_pure,pure_bind];simp at h ⊢;simp [h]
theorem st265:StT Tryz.prog 265 [(0,1),(1,1)] [(Value.int IntKind.i64 0),(Value.slice none 0 0)]:=fun vs cs w h=>by simp only [Instr.build,Sem.run_bind,Tryz.zeroValue265,Tryz.runUnderlying265,Result.andThen_ok,Value.cells,List.mapM_toArray,List.mapM_cons,List.mapM_nil,Tryz.sizeOf3,Tryz.sizeOf263,Sem.run_pure,Sem.run_map,bind_pure_comp,map_pure,pure_bind];simp at h ⊢;simp [h]
theorem st267:StT Tryz.prog 267 [(0,1),(1,1),(2,1)] [(Value.int IntKind.i64 0),(Value.int IntKind.i64 0),(Value.int IntKind.u32 0)]:=fun vs cs w h=>by simp only [Instr.build,Sem.run_bind,Tryz.zeroValue267,Tryz.runUnderlying267,Result.andThen_ok,Value.cells,List.mapM_toArray,List.mapM_cons,List.mapM_nil,Tryz.sizeOf3,Tryz.sizeOf56,Sem.run_pure,Sem.run_map,bind_pure_comp,map_pure,pure_bind];simp at h ⊢;simp [h]
theorem st290:StT Tryz.prog 290 [(0,1),(1,1),(2,1),(3,1)] [(Value.slice none 0 0),(Value.slice none 0 0),(Value.slice none 0 0),(Value.slice none 0 0)]:=fun vs cs w h=>by simp only [Instr.build,Sem.run_bind,Tryz.zeroValue290,Tryz.runUnderlying290,Result.andThen_ok,Value.cells,List.mapM_toArray,List.mapM_cons,List.mapM_nil,Tryz.sizeOf25,Tryz.sizeOf32,Tryz.sizeOf288,Sem.run_pure,Sem.run_map,bind_pure_comp,map_pure,pure_bind];simp at h ⊢;simp [h]
theorem st301:StT Tryz.prog 301 [(0,2),(2,2)] [(Value.int IntKind.i64 0),(Value.int IntKind.i64 0),(Value.int IntKind.u32 0),(Value.int IntKind.u32 0)]:=fun vs cs w h=>by simp only [Instr.build,Sem.run_bind,Tryz.zeroValue301,Tryz.runUnderlying301,Result.andThen_ok,Value.cells,List.mapM_toArray,List.mapM_cons,List.mapM_nil,Tryz.sizeOf237,Tryz.sizeOf299,Sem.run_pure,Sem.run_map,bind_pure_comp,map_pure,pure_bind];simp at h ⊢;simp [h]
theorem el22:ElT Tryz.prog 22 69 3 24 [(Value.int IntKind.i64 0),(Value.int IntKind.i64 0),(Value.int IntKind.u32 0)]:=⟨Tryz.underlying22,by kernel_rfl,rfl,aA⟩
theorem eL:ElT Tryz.prog 25 3 1 8 [(Value.int IntKind.i64 0)]:=⟨Tryz.underlying25,by kernel_rfl,rfl,aA⟩
theorem el32:ElT Tryz.prog 32 25 1 24 [(Value.slice none 0 0)]:=⟨Tryz.underlying32,by kernel_rfl,rfl,aA⟩
theorem el37:ElT Tryz.prog 37 4 1 1 [(Value.bool false)]:=⟨Tryz.underlying37,by kernel_rfl,rfl,aA⟩
theorem q6:ElT Tryz.prog 41 46 1 8 [(Value.int IntKind.u64 0)]:=⟨Tryz.underlying41,by kernel_rfl,rfl,aA⟩
theorem el53:ElT Tryz.prog 53 141 1 24 [(Value.slice none 0 0)]:=⟨Tryz.underlying53,by kernel_rfl,rfl,aA⟩
theorem l9:ElT Tryz.prog 114 113 2 16 [(Value.int IntKind.i64 0),(Value.int IntKind.u64 0)]:=⟨Tryz.underlying114,by kernel_rfl,rfl,aA⟩
theorem el141:ElT Tryz.prog 141 138 4 48 [(Value.int IntKind.i64 0),(Value.int IntKind.i64 0),(Value.int IntKind.i64 0),(Value.slice none 0 0)]:=⟨Tryz.underlying141,by kernel_rfl,rfl,aA⟩
theorem el154:ElT Tryz.prog 154 215 2 16 [(Value.int IntKind.i64 0),(Value.int IntKind.i64 0)]:=⟨Tryz.underlying154,by kernel_rfl,rfl,aA⟩
theorem el162:ElT Tryz.prog 162 165 3 24 [(Value.int IntKind.i64 0),(Value.int IntKind.i64 0),(Value.int IntKind.i64 0)]:=⟨Tryz.underlying162,by kernel_rfl,rfl,aA⟩
theorem el188:ElT Tryz.prog 188 193 2 16 [(Value.int IntKind.i64 0),(Value.int IntKind.u64 0)]:=⟨Tryz.underlying188,by kernel_rfl,rfl,aA⟩
theorem el204:ElT Tryz.prog 204 56 1 4 [(Value.int IntKind.u32 0)]:=⟨Tryz.underlying204,by kernel_rfl,rfl,aA⟩
theorem el258:ElT Tryz.prog 258 260 2 16 [(Value.int IntKind.i64 0),(Value.int IntKind.u64 0)]:=⟨Tryz.underlying258,by kernel_rfl,rfl,aA⟩
theorem el263:ElT Tryz.prog 263 267 3 24 [(Value.int IntKind.i64 0),(Value.int IntKind.i64 0),(Value.int IntKind.u32 0)]:=⟨Tryz.underlying263,by kernel_rfl,rfl,aA⟩
theorem el288:ElT Tryz.prog 288 301 4 24 [(Value.int IntKind.i64 0),(Value.int IntKind.i64 0),(Value.int IntKind.u32 0),(Value.int IntKind.u32 0)]:=⟨Tryz.underlying288,by kernel_rfl,rfl,aA⟩
theorem eT:dN Tryz.prog 24 0 0:=fun b i w=>by simp [Instr.fieldAt,Instr.sureAddr,fieldPlace,Tryz.runUnderlying24,Tryz.sizeOf3,dG]
theorem fT:dN Tryz.prog 24 1 1:=fun b i w=>by simp [Instr.fieldAt,Instr.sureAddr,fieldPlace,Tryz.runUnderlying24,Tryz.sizeOf22,dG]
theorem fa27_0:dN Tryz.prog 27 0 0:=fun b i w=>by simp [Instr.fieldAt,Instr.sureAddr,fieldPlace,Tryz.runUnderlying27,Tryz.sizeOf25,dG]
theorem fa27_1:dN Tryz.prog 27 1 1:=fun b i w=>by simp [Instr.fieldAt,Instr.sureAddr,fieldPlace,Tryz.runUnderlying27,Tryz.sizeOf25,dG]
theorem fa27_2:dN Tryz.prog 27 2 2:=fun b i w=>by simp [Instr.fieldAt,Instr.sureAddr,fieldPlace,Tryz.runUnderlying27,Tryz.sizeOf3,dG]
theorem fa34_0:dN Tryz.prog 34 0 0:=fun b i w=>by simp [Instr.fieldAt,Instr.sureAddr,fieldPlace,Tryz.runUnderlying34,Tryz.sizeOf25,dG]
theorem jD:dN Tryz.prog 34 1 1:=fun b i w=>by simp [Instr.fieldAt,Instr.sureAddr,fieldPlace,Tryz.runUnderlying34,Tryz.sizeOf32,dG]
theorem fa58_0:dN Tryz.prog 58 0 0:=fun b i w=>by simp [Instr.fieldAt,Instr.sureAddr,fieldPlace,Tryz.runUnderlying58,Tryz.sizeOf3,dG]
theorem fa58_1:dN Tryz.prog 58 1 1:=fun b i w=>by simp [Instr.fieldAt,Instr.sureAddr,fieldPlace,Tryz.runUnderlying58,Tryz.sizeOf56,dG]
theorem fY:dN Tryz.prog 69 0 0:=fun b i w=>by simp [Instr.fieldAt,Instr.sureAddr,fieldPlace,Tryz.runUnderlying69,Tryz.sizeOf3,dG]
theorem fO:dN Tryz.prog 69 1 1:=fun b i w=>by simp [Instr.fieldAt,Instr.sureAddr,fieldPlace,Tryz.runUnderlying69,Tryz.sizeOf3,dG]
theorem fa69_2:dN Tryz.prog 69 2 2:=fun b i w=>by simp [Instr.fieldAt,Instr.sureAddr,fieldPlace,Tryz.runUnderlying69,Tryz.sizeOf56,dG]
theorem fa81_0:dN Tryz.prog 81 0 0:=fun b i w=>by simp [Instr.fieldAt,Instr.sureAddr,fieldPlace,Tryz.runUnderlying81,Tryz.sizeOf24,dG]
theorem fa81_1:dN Tryz.prog 81 1 2:=fun b i w=>by simp [Instr.fieldAt,Instr.sureAddr,fieldPlace,Tryz.runUnderlying81,Tryz.sizeOf4,dG]
theorem fa81_2:dN Tryz.prog 81 2 3:=fun b i w=>by simp [Instr.fieldAt,Instr.sureAddr,fieldPlace,Tryz.runUnderlying81,Tryz.sizeOf32,dG]
theorem fa81_3:dN Tryz.prog 81 3 4:=fun b i w=>by simp [Instr.fieldAt,Instr.sureAddr,fieldPlace,Tryz.runUnderlying81,Tryz.sizeOf41,dG]
theorem fa81_4:dN Tryz.prog 81 4 5:=fun b i w=>by simp [Instr.fieldAt,Instr.sureAddr,fieldPlace,Tryz.runUnderlying81,Tryz.sizeOf25,dG]
theorem fa81_5:dN Tryz.prog 81 5 6:=fun b i w=>by simp [Instr.fieldAt,Instr.sureAddr,fieldPlace,Tryz.runUnderlying81,Tryz.sizeOf79,dG]
theorem fa101_0:dN Tryz.prog 101 0 0:=fun b i w=>by simp [Instr.fieldAt,Instr.sureAddr,fieldPlace,Tryz.runUnderlying101,Tryz.sizeOf34,dG]
theorem fa101_1:dN Tryz.prog 101 1 2:=fun b i w=>by simp [Instr.fieldAt,Instr.sureAddr,fieldPlace,Tryz.runUnderlying101,Tryz.sizeOf3,dG]
theorem fa101_2:dN Tryz.prog 101 2 3:=fun b i w=>by simp [Instr.fieldAt,Instr.sureAddr,fieldPlace,Tryz.runUnderlying101,Tryz.sizeOf3,dG]
theorem fa105_0:dN Tryz.prog 105 0 0:=fun b i w=>by simp [Instr.fieldAt,Instr.sureAddr,fieldPlace,Tryz.runUnderlying105,Tryz.sizeOf103,dG]
theorem fa105_1:dN Tryz.prog 105 1 1:=fun b i w=>by simp [Instr.fieldAt,Instr.sureAddr,fieldPlace,Tryz.runUnderlying105,Tryz.sizeOf103,dG]
theorem qY:dN Tryz.prog 113 0 0:=fun b i w=>by simp [Instr.fieldAt,Instr.sureAddr,fieldPlace,Tryz.runUnderlying113,Tryz.sizeOf3,dG]
theorem fa113_1:dN Tryz.prog 113 1 1:=fun b i w=>by simp [Instr.fieldAt,Instr.sureAddr,fieldPlace,Tryz.runUnderlying113,Tryz.sizeOf46,dG]
theorem fa138_0:dN Tryz.prog 138 0 0:=fun b i w=>by simp [Instr.fieldAt,Instr.sureAddr,fieldPlace,Tryz.runUnderlying138,Tryz.sizeOf3,dG]
theorem fa138_1:dN Tryz.prog 138 1 1:=fun b i w=>by simp [Instr.fieldAt,Instr.sureAddr,fieldPlace,Tryz.runUnderlying138,Tryz.sizeOf3,dG]
theorem fa138_2:dN Tryz.prog 138 2 2:=fun b i w=>by simp [Instr.fieldAt,Instr.sureAddr,fieldPlace,Tryz.runUnderlying138,Tryz.sizeOf3,dG]
theorem k4:dN Tryz.prog 138 3 3:=fun b i w=>by simp [Instr.fieldAt,Instr.sureAddr,fieldPlace,Tryz.runUnderlying138,Tryz.sizeOf41,dG]
theorem fa153_0:dN Tryz.prog 153 0 0:=fun b i w=>by simp [Instr.fieldAt,Instr.sureAddr,fieldPlace,Tryz.runUnderlying153,Tryz.sizeOf151,dG]
theorem fa153_1:dN Tryz.prog 153 1 1:=fun b i w=>by simp [Instr.fieldAt,Instr.sureAddr,fieldPlace,Tryz.runUnderlying153,Tryz.sizeOf41,dG]
theorem fa153_2:dN Tryz.prog 153 2 2:=fun b i w=>by simp [Instr.fieldAt,Instr.sureAddr,fieldPlace,Tryz.runUnderlying153,Tryz.sizeOf79,dG]
theorem fa165_0:dN Tryz.prog 165 0 0:=fun b i w=>by simp [Instr.fieldAt,Instr.sureAddr,fieldPlace,Tryz.runUnderlying165,Tryz.sizeOf3,dG]
theorem fa165_1:dN Tryz.prog 165 1 1:=fun b i w=>by simp [Instr.fieldAt,Instr.sureAddr,fieldPlace,Tryz.runUnderlying165,Tryz.sizeOf3,dG]
theorem fa165_2:dN Tryz.prog 165 2 2:=fun b i w=>by simp [Instr.fieldAt,Instr.sureAddr,fieldPlace,Tryz.runUnderlying165,Tryz.sizeOf3,dG]
theorem fa171_0:dN Tryz.prog 171 0 0:=fun b i w=>by simp [Instr.fieldAt,Instr.sureAddr,fieldPlace,Tryz.runUnderlying171,Tryz.sizeOf169,dG]
theorem fa171_1:dN Tryz.prog 171 1 1:=fun b i w=>by simp [Instr.fieldAt,Instr.sureAddr,fieldPlace,Tryz.runUnderlying171,Tryz.sizeOf3,dG]
theorem fW:dN Tryz.prog 191 0 0:=fun b i w=>by simp [Instr.fieldAt,Instr.sureAddr,fieldPlace,Tryz.runUnderlying191,Tryz.sizeOf188,dG]
theorem lT:dN Tryz.prog 191 1 1:=fun b i w=>by simp [Instr.fieldAt,Instr.sureAddr,fieldPlace,Tryz.runUnderlying191,Tryz.sizeOf25,dG]
theorem fa191_2:dN Tryz.prog 191 2 2:=fun b i w=>by simp [Instr.fieldAt,Instr.sureAddr,fieldPlace,Tryz.runUnderlying191,Tryz.sizeOf189,dG]
theorem mY:dN Tryz.prog 193 0 0:=fun b i w=>by simp [Instr.fieldAt,Instr.sureAddr,fieldPlace,Tryz.runUnderlying193,Tryz.sizeOf3,dG]
theorem qX:dN Tryz.prog 193 1 1:=fun b i w=>by simp [Instr.fieldAt,Instr.sureAddr,fieldPlace,Tryz.runUnderlying193,Tryz.sizeOf46,dG]
theorem k3:dN Tryz.prog 195 0 0:=fun b i w=>by simp [Instr.fieldAt,Instr.sureAddr,fieldPlace,Tryz.runUnderlying195,Tryz.sizeOf187,dG]
theorem lS:dN Tryz.prog 215 0 0:=fun b i w=>by simp [Instr.fieldAt,Instr.sureAddr,fieldPlace,Tryz.runUnderlying215,Tryz.sizeOf3,dG]
theorem oF:dN Tryz.prog 215 1 1:=fun b i w=>by simp [Instr.fieldAt,Instr.sureAddr,fieldPlace,Tryz.runUnderlying215,Tryz.sizeOf3,dG]
theorem fa229_0:dN Tryz.prog 229 0 0:=fun b i w=>by simp [Instr.fieldAt,Instr.sureAddr,fieldPlace,Tryz.runUnderlying229,Tryz.sizeOf3,dG]
theorem fa229_1:dN Tryz.prog 229 1 1:=fun b i w=>by simp [Instr.fieldAt,Instr.sureAddr,fieldPlace,Tryz.runUnderlying229,Tryz.sizeOf3,dG]
theorem fa229_2:dN Tryz.prog 229 2 2:=fun b i w=>by simp [Instr.fieldAt,Instr.sureAddr,fieldPlace,Tryz.runUnderlying229,Tryz.sizeOf3,dG]
theorem mX:dN Tryz.prog 234 0 0:=fun b i w=>by simp [Instr.fieldAt,Instr.sureAddr,fieldPlace,Tryz.runUnderlying234,Tryz.sizeOf25,dG]
theorem fa234_1:dN Tryz.prog 234 1 1:=fun b i w=>by simp [Instr.fieldAt,Instr.sureAddr,fieldPlace,Tryz.runUnderlying234,Tryz.sizeOf32,dG]
theorem fa234_2:dN Tryz.prog 234 2 2:=fun b i w=>by simp [Instr.fieldAt,Instr.sureAddr,fieldPlace,Tryz.runUnderlying234,Tryz.sizeOf25,dG]
theorem fa260_0:dN Tryz.prog 260 0 0:=fun b i w=>by simp [Instr.fieldAt,Instr.sureAddr,fieldPlace,Tryz.runUnderlying260,Tryz.sizeOf3,dG]
theorem fa260_1:dN Tryz.prog 260 1 1:=fun b i w=>by simp [Instr.fieldAt,Instr.sureAddr,fieldPlace,Tryz.runUnderlying260,Tryz.sizeOf46,dG]
theorem lR:dN Tryz.prog 265 0 0:=fun b i w=>by simp [Instr.fieldAt,Instr.sureAddr,fieldPlace,Tryz.runUnderlying265,Tryz.sizeOf3,dG]
theorem fa265_1:dN Tryz.prog 265 1 1:=fun b i w=>by simp [Instr.fieldAt,Instr.sureAddr,fieldPlace,Tryz.runUnderlying265,Tryz.sizeOf263,dG]
theorem fa267_0:dN Tryz.prog 267 0 0:=fun b i w=>by simp [Instr.fieldAt,Instr.sureAddr,fieldPlace,Tryz.runUnderlying267,Tryz.sizeOf3,dG]
theorem fa267_1:dN Tryz.prog 267 1 1:=fun b i w=>by simp [Instr.fieldAt,Instr.sureAddr,fieldPlace,Tryz.runUnderlying267,Tryz.sizeOf3,dG]
theorem fa267_2:dN Tryz.prog 267 2 2:=fun b i w=>by simp [Instr.fieldAt,Instr.sureAddr,fieldPlace,Tryz.runUnderlying267,Tryz.sizeOf56,dG]
theorem qW:dN Tryz.prog 290 0 0:=fun b i w=>by simp [Instr.fieldAt,Instr.sureAddr,fieldPlace,Tryz.runUnderlying290,Tryz.sizeOf288,dG]
theorem qV:dN Tryz.prog 290 1 1:=fun b i w=>by simp [Instr.fieldAt,Instr.sureAddr,fieldPlace,Tryz.runUnderlying290,Tryz.sizeOf32,dG]
theorem lQ:dN Tryz.prog 290 2 2:=fun b i w=>by simp [Instr.fieldAt,Instr.sureAddr,fieldPlace,Tryz.runUnderlying290,Tryz.sizeOf25,dG]
theorem fa290_3:dN Tryz.prog 290 3 3:=fun b i w=>by simp [Instr.fieldAt,Instr.sureAddr,fieldPlace,Tryz.runUnderlying290,Tryz.sizeOf25,dG]
theorem fa301_0:dN Tryz.prog 301 0 0:=fun b i w=>by simp [Instr.fieldAt,Instr.sureAddr,fieldPlace,Tryz.runUnderlying301,Tryz.sizeOf237,dG]
theorem fa301_1:dN Tryz.prog 301 1 2:=fun b i w=>by simp [Instr.fieldAt,Instr.sureAddr,fieldPlace,Tryz.runUnderlying301,Tryz.sizeOf299,dG]
end Go.Proofs.YthpkelafioikaaaGreat
