import Derived.Test.YthpkelafioikaaaGreatFlyRun
import Derived.Shelf.Lays
import Derived.Test.YthpkelafioikaaaGreatProg
import Derived.Test.YthpkelafioikaaaGreatAll1
import Derived.Test.YthpkelafioikaaaGreatFlyT
import Derived.Test.YthpkelafioikaaaGreatAll2
import Derived.Test.YthpkelafioikaaaGreatAll0
namespace Go.Proofs
open Go.Shelf
def Tryz.laysSort_ren:Go.Shelf.Ren:=⟨fun|189=>22|125=>60|257=>59|128=>105|129=>106|294=>96|295=>97|296=>98|297=>99|298=>100|299=>101|216=>102|300=>103|301=>104|328=>143|329=>144|330=>145|331=>146|332=>147|215=>148|343=>173|n=>n,fun|28=>25|3=>3|46=>118|0=>0|51=>56|53=>45|4=>4|183=>177|182=>176|131=>144|5=>5|9=>9|218=>238|222=>242|228=>280|229=>281|n=>n,fun|n=>n⟩
theorem Tryz.laysSort:Go.Proofs.Lays.n189 Tryz.prog Tryz.laysSort_ren:={
 mixed:=by kernel_rfl
 f125:=Tryz.func60.trans (congrArg some (by kernel_rfl))
 f128:=Tryz.func105.trans (congrArg some (by kernel_rfl))
 f129:=Tryz.func106.trans (congrArg some (by kernel_rfl))
 f189:=Tryz.func22.trans (congrArg some (by kernel_rfl))
 f215:=Tryz.func148.trans (congrArg some (by kernel_rfl))
 f216:=Tryz.func102.trans (congrArg some (by kernel_rfl))
 f257:=Tryz.func59.trans (congrArg some (by kernel_rfl))
 f294:=Tryz.func96.trans (congrArg some (by kernel_rfl))
 f295:=Tryz.func97.trans (congrArg some (by kernel_rfl))
 f296:=Tryz.func98.trans (congrArg some (by kernel_rfl))
 f297:=Tryz.func99.trans (congrArg some (by kernel_rfl))
 f298:=Tryz.func100.trans (congrArg some (by kernel_rfl))
 f299:=Tryz.func101.trans (congrArg some (by kernel_rfl))
 f300:=Tryz.func103.trans (congrArg some (by kernel_rfl))
 f301:=Tryz.func104.trans (congrArg some (by kernel_rfl))
 f328:=Tryz.func143.trans (congrArg some (by kernel_rfl))
 f329:=Tryz.func144.trans (congrArg some (by kernel_rfl))
 f330:=Tryz.func145.trans (congrArg some (by kernel_rfl))
 f331:=Tryz.func146.trans (congrArg some (by kernel_rfl))
 f332:=Tryz.func147.trans (congrArg some (by kernel_rfl))
 f343:=Tryz.func173.trans (congrArg some (by kernel_rfl))
 t0:=Tryz.underlying0
 a0:=Tryz.isAgg0
 z0:=Tryz.sizeOf0
 v0:=Tryz.zeroValue0
 t3:=Tryz.underlying3
 a3:=Tryz.isAgg3
 z3:=Tryz.sizeOf3
 v3:=Tryz.zeroValue3
 t4:=Tryz.underlying4
 a4:=Tryz.isAgg4
 z4:=Tryz.sizeOf4
 v4:=Tryz.zeroValue4
 t5:=Tryz.underlying5
 a5:=Tryz.isAgg5
 z5:=Tryz.sizeOf5
 v5:=Tryz.zeroValue5
 t9:=Tryz.underlying9
 a9:=Tryz.isAgg9
 z9:=Tryz.sizeOf9
 v9:=Tryz.zeroValue9
 t28:=Tryz.underlying25
 a28:=Tryz.isAgg25
 z28:=Tryz.sizeOf25
 v28:=Tryz.zeroValue25
 t46:=Tryz.underlying118
 a46:=Tryz.isAgg118
 z46:=Tryz.sizeOf118
 v46:=Tryz.zeroValue118
 t51:=Tryz.underlying56
 a51:=Tryz.isAgg56
 z51:=Tryz.sizeOf56
 v51:=Tryz.zeroValue56
 t53:=Tryz.underlying45
 a53:=Tryz.isAgg45
 z53:=Tryz.sizeOf45
 v53:=Tryz.zeroValue45
 t131:=Tryz.underlying144
 a131:=Tryz.isAgg144
 z131:=Tryz.sizeOf144
 v131:=Tryz.zeroValue144
 t182:=Tryz.underlying176
 a182:=Tryz.isAgg176
 z182:=Tryz.sizeOf176
 v182:=Tryz.zeroValue176
 t183:=Tryz.underlying177
 a183:=Tryz.isAgg177
 z183:=Tryz.sizeOf177
 v183:=Tryz.zeroValue177
 t218:=Tryz.underlying238
 a218:=Tryz.isAgg238
 z218:=Tryz.sizeOf238
 v218:=Tryz.zeroValue238
 t222:=Tryz.underlying242
 a222:=Tryz.isAgg242
 z222:=Tryz.sizeOf242
 v222:=Tryz.zeroValue242
 t228:=Tryz.underlying280
 a228:=Tryz.isAgg280
 z228:=Tryz.sizeOf280
 v228:=Tryz.zeroValue280
 t229:=Tryz.underlying281
 a229:=Tryz.isAgg281
 z229:=Tryz.sizeOf281
 v229:=Tryz.zeroValue281 }
end Go.Proofs
namespace Go.Proofs.YthpkelafioikaaaGreat
open Go Go.RowKit Fly
set_option maxRecDepth 100000
set_option maxHeartbeats 4000000
set_option linter.all false
theorem j9 (A:Option Addr) (cap:Nat) (l:List Int) (m:Seg) (w:World) (ho:Own 3 1 (.slice A l.length cap) l.length (bF l) m) (hl:l.length<4611686018427387904) (hw:Owns w [m]):
  Meets Tryz.prog 22 [.slice A l.length cap] w [m] (fun u own' =>u= .tuple #[]∧∃ m',own' =[m']∧Own 3 1 (.slice A l.length cap) l.length (bF (gT l)) m'):=
 meets_sort Tryz.laysSort A cap l m w ho hl hw
theorem clE_row {N:Int} {l:List Arc} {bs:List Int} {R:List Row} {q c:Int} (h:clE N l bs (bG R) q c=0):lkE N l bs (bG R) q=0:=by
 unfold clE at h
 by_cases h1:lkE N l bs (bG R) q=0
 ·exact h1
 ·rw [if_pos h1] at h;exact h
theorem qD {R:List Row} {q:Int} {r:Row} (h:R[(q - 1).toNat]? =some r) (hq:1≤q):(bG R).getD (q.toNat - 1) []=r.2.1:=by
 have e:(q - 1).toNat=q.toNat - 1:=aA
 rw [e] at h
 unfold bG
 rw [List.getD_eq_getElem?_getD,List.getElem?_map,h];rfl
theorem mem_pos {n:Nat} {L:List Int} (F:eH (n:Int) L=true) (hn:1≤n) {j:Nat} (hj:(j:Int)<e9 L+1):0<(hZ L (j:Int) L.length).length:=by
 have h:=right_cntN F hn (j:=j) aA
 unfold cnt at h
 obtain ⟨x,hx⟩:=List.exists_mem_of_length_pos (show 0<(L.filter fun x=>decide (x=Int.ofNat j)).length by omega)
 obtain ⟨h1,h2⟩:=List.mem_filter.1 hx
 obtain ⟨v,hv,e⟩:=List.mem_iff_getElem.1 h1
 have:(v:Int)∈hZ L (j:Int) L.length:=by
  unfold hZ
  refine List.mem_map.2 ⟨v,List.mem_filter.2 ⟨by simpa using hv,?_⟩,rfl⟩;rw [decide_eq_true_eq,List.getD_eq_getElem?_getD,List.getElem?_eq_getElem hv,Option.getD_some,e]
  simpa using h2
 exact List.length_pos_of_mem this
theorem memTo_mem {L:List Int} {c:Int} {k:Nat} {x:Int}:x∈hZ L c k↔∃ v:Nat,x=(v:Int)∧v<k∧L.getD v 0=c:=by
 unfold hZ
 simp only [List.mem_map,List.mem_filter,List.mem_range,decide_eq_true_eq];constructor
 ·rintro ⟨v,⟨h1,h2⟩,rfl⟩;exact ⟨v,rfl,h1,h2⟩
 ·rintro ⟨v,rfl,h1,h2⟩;exact ⟨v,⟨h1,h2⟩,rfl⟩
def lowL (B M:List Int):List Int:=M.map fun v=>B.getD v.toNat 0
def chE (N:Int) (l:List Arc) (bs:List Int) (L:List (List Int)) (q c:Int):Int:=if clE N l bs L q c≠0 then clE N l bs L q c else if q=1 then 111 else 0
def chL (L:List (List Int)) (q c:Int):List Int:=cpt (gT (lowL (L.getD (q.toNat - 2) []) (hZ (L.getD (q.toNat - 1) []) c (L.getD (q.toNat - 1) []).length)))
def apV (L:List (List Int)) (u v:Nat):Nat→Nat
 |0=>0
 |k+1=>if (L.getD k []).getD u 0≠(L.getD k []).getD v 0 then k+1 else apV L u v k
theorem lowL_next {B M:List Int} {k:Nat} (h:k<M.length):lowL B (M.take (k+1))=lowL B (M.take k)++[B.getD M[k].toNat 0]:=by
 unfold lowL;rw [List.take_succ_eq_append_getElem h,List.map_append];rfl
theorem lowL_len (B M:List Int):(lowL B M).length=M.length:=by simp [lowL]
theorem MaxN_spec (B:Option Addr) (L:List Int) (cb:Nat) (w:World) (hL:Ro (Fr w []) w B (bF L)) (Z:0<L.length) (hm:L.length≤9223372036854775807):
    Meets Tryz.prog 153 [.slice B L.length cb] w [] (fun u m=>u= .int .i64 (e9 L)∧m=[]):=by
 obtain ⟨bb,Y,rfl,J,F⟩:=hL (fun e=>by have:=a7 L;rw [e] at this;simp at this;omega)
 refine bE Tryz.func153 rfl Tryz.ntmps153 rfl Owns.nil<|aG fun kh1=>aB 1 rfl<|aD kh1<|aS fun kh2=>aG fun O=>aB 1 rfl<|dU sl169 rfl<|aB 1 rfl<|aD O ?_
 refine dX rfl aA<|bV kh2<|aG fun kh4=>aB 1 rfl<|f_Q (aL sl169 rfl rfl (Y+0))<|f_Q (aH Tryz.isAgg3 rfl (d3 (enc:=(.int .i64 ·)) J F Z))<|aB 1 rfl<|aD kh4<|aS fun kh5=>aS fun X=>?_
 refine f_reC 3 rfl (v:= .int .i64 ((L.take 1).foldl max (L.headD 0))) (by rw [max_one Z]) ?_;refine aI<|aB 1 rfl<|aD X<|aR ?_
 refine lU (α:=Nat) [0] (fun k=>[(4,.int .i64 (k:Int)),(3,.int .i64 ((L.take k).foldl max (L.headD 0)))]) (fun k=>1≤k∧k≤L.length) (fun k=>L.length - k) (1) ?_ ?_ ?_
 ·exact aF
 ·exact ⟨aA,aA⟩
 ·rintro k ⟨ab,aa⟩;refine aS fun U=>aG fun kh8=>aB 2 rfl<|dU sl169 rfl<|aB 1 rfl<|aD kh8<|aX rfl (fun c15=>?_) (fun c15=>?_)
  ·have hk:k<L.length:=aA
   refine bV U<|aS fun kh9=>aR<|aI<|aB 3 rfl<|f_Q (aL sl169 rfl rfl (Y+k))<|f_Q (aH Tryz.isAgg3 rfl (d3 (enc:=(.int .i64 ·)) J F hk))<|f_Q (o_max rfl rfl)<|aB 1 rfl<|aZ ?_
   refine dF<|bO kh9<|f_reC 3 rfl (v:= .int .i64 ((L.take (k+1)).foldl max (L.headD 0))) (by rw [max_next hk]) ?_
   refine aI<|aB 1 rfl<|f_Q (a8 rfl rfl)<|aB 1 rfl<|aZ ?_
   refine cS (a6 (k+1) (by first|omega|(dsimp only;omega)|(simp;omega)) ⟨aA,aA⟩ ?_ ?_ ?_)
   ·exact aF
   ·exact aF
   ·exact aC
  ·refine cN<|cO<|cO<|eC<|bO kh5<|aG fun kh10=>aB 2 rfl<|aD kh10<|aY ?_
   exact bJ [] Tryz.results153 rfl aP ⟨by rw [List.take_of_length_le aA];rfl,rfl⟩
theorem lmany_spec (B:Option Addr) (L:List Int) (cb:Nat) (w:World) (J:Ro (Fr w []) w B (bF L)) (O:0<L.length) (hm:L.length≤9223372036854775807) (hx:e9 L≤1000000∧-1000000≤e9 L):
    Meets Tryz.prog 118 [.slice B L.length cb] w [] (fun u m=>u= .int .i64 (e9 L+1)∧m=[]):=by
 refine bE Tryz.func118 rfl Tryz.ntmps118 rfl Owns.nil<|aG fun kh1=>aB 1 rfl<|aD kh1<|aG fun kh2=>aB 1 rfl ?_
 refine f_S (aV Tryz.call153 rfl (fun U F=>MaxN_spec B L cb U (J.up0 F) O hm) ?_);rintro _ _ ⟨rfl,rfl⟩;dsimp only [aK,aJ];refine f_Q (a8 rfl rfl)<|aB 1 rfl<|aD kh2<|aY ?_
 exact bJ [] Tryz.results118 rfl aP ⟨rfl,rfl⟩
theorem lmem_spec (B:Option Addr) (L:List Int) (cb:Nat) (c:Int) (w:World) (hL:Ro (Fr w []) w B (bF L)) (hm:L.length≤1024):
    Meets Tryz.prog 95 [.slice B L.length cb,.int .i64 c] w [] (fun u own' =>∃ A' c' m',u= .slice A' (hZ L c L.length).length c'∧own' =[m']∧Own 3 1 (.slice A' (hZ L c L.length).length c') (hZ L c L.length).length (bF (hZ L c L.length)) m'):=by
 refine bE Tryz.func95 rfl Tryz.ntmps95 rfl Owns.nil<|aG fun kh1=>aB 1 rfl<|aD kh1<|aG fun kh2=>aB 1 rfl<|aD kh2<|aS fun kh3=>aG fun ac=>aB 1 rfl ?_
 refine dU sl169 rfl<|aB 1 rfl<|aD ac<|aR ?_
 refine dA (α:=Nat×Value×Seg) [1,8,9] (fun ⟨k,ov,F⟩=>[(10,.int .i64 (k:Int)),(5,ov)]) (fun ⟨k,ov,F⟩=>[F]) (fun ⟨k,ov,F⟩=>k≤L.length∧Own 3 1 ov (hZ L c k).length (bF (hZ L c k)) F) (fun ⟨k,ov,F⟩=>L.length - k) (0,.slice none 0 0,[]) ?_ ?_ ?_ ?_
 ·exact aF
 ·exact aC
 ·exact ⟨Nat.zero_le _,Own.nil _ _⟩
 ·rintro ⟨k,ov,F⟩ ⟨ae,U⟩;have ag:=pL L c k
  obtain ⟨Ao,co,rfl,ah⟩:=U.val
  refine aG fun kh5=>aB 1 rfl<|aD kh5<|aS fun kh6=>aX rfl (fun Y=>?_) (fun Y=>?_)
  ·have hk:k<L.length:=aA
   obtain ⟨bb,ob,rfl,aa,ab⟩:=hL (fun e=>by have:=a7 L;rw [e] at this;simp at this;omega)
   have O:L.getD k 0=L[k]:=by simp [List.getD_eq_getElem?_getD,hk]
   refine bV kh6<|aS fun kh7=>aR<|aG fun kh8=>aB 1 rfl<|f_Q (aL sl169 rfl rfl (ob+k))<|f_Q (aH Tryz.isAgg3 rfl (d3 (enc:=(.int .i64 ·)) aa ab hk))<|aB 2 rfl<|aD kh8<|aG fun kh9=>?_
   refine aB 3 rfl<|aD kh9<|aX rfl (fun c17=>?_) (fun c17=>?_)
   ·have J:=memTo_yes (L:=L) (c:=c) (k:=k) (by rw [O];exact c17)
    refine aI<|aB 2 rfl<|f_S (bQ eL aA rfl rfl rfl fun b20=>?_)
    refine f_S (dE eL rfl rfl U (ys:=[.int .i64 (k:Int)]) ⟨(rdA rfl),trivial⟩ rfl rfl aA aA fun ad Z X=>?_);refine aB 1 rfl<|aZ<|dF<|bO kh7<|aI<|f_Q (a8 rfl rfl)<|aB 1 rfl<|aZ ?_
    refine cS (a6 (k+1,ad,Z) (by first|omega|(dsimp only;omega)|(simp;omega)) ⟨aA,by rw [J,List.length_append,eJ];exact X⟩ ?_ ?_ ?_)
    ·exact aF
    ·exact aF
    ·exact aC
   ·have J:=memTo_no (L:=L) (c:=c) (k:=k) (by rw [O];exact c17)
    refine dY<|dF<|bO kh7<|aI<|f_Q (a8 rfl rfl)<|aB 1 rfl<|aZ ?_
    refine cS (a6 (k+1,.slice Ao (hZ L c k).length co,F) (by first|omega|(dsimp only;omega)|(simp;omega)) ⟨aA,by rw [J];exact U⟩ ?_ ?_ ?_)
    ·exact aF
    ·exact aF
    ·exact aC
  ·obtain rfl:k=L.length:=aA
   refine cN<|cO<|cO<|eC<|bO kh3<|aG fun kh10=>aB 2 rfl<|aD kh10<|aY ?_
   exact bJ [F] Tryz.results95 rfl aC ⟨Ao,co,F,rfl,rfl,U⟩
theorem NMany_spec (N:Int) (A:Option Addr) (l:List Arc) (cap:Nat) (Ab:Option Addr) (bs:List Int) (cb:Nat) (Ac:Option Addr) (R:List Row) (cc:Nat) (q:Int) (w:World) (hr:Ro (Fr w []) w A (l.flatMap bZ)) (hl:l.length≤9223372036854775807) (hN:I64 N) (hok:∀ x∈l,eK x) (hn:NestRo (Fr w []) w Ab bs Ac R):
    Meets Tryz.prog 72 [.agg #[.int .i64 N,.slice A l.length cap],.agg #[.slice Ab bs.length cb,.slice Ac R.length cc],.int .i64 q] w [] (fun u m=>u= .tuple #[.int .i64 (if lkE N l bs (bG R) q≠0 then 0 else e9 ((bG R).getD (q.toNat - 1) [])+1),.int .i64 (lkE N l bs (bG R) q)]∧m=[]):=by
 refine bE Tryz.func72 rfl Tryz.ntmps72 rfl Owns.nil<|aG fun kh1=>f_S (cT rfl rfl fun b3=>?_)
 refine f_S (cT rfl rfl fun b4=>?_);refine aB 2 rfl<|aD kh1<|aG fun kh2=>f_Q (aO (vs:=[_,_]) Tryz.isAgg24 Tryz.sizeOf24 rfl rfl ⟨(rdA rfl),(rdA rfl),trivial⟩)<|f_Q (aO (vs:=[_,_]) Tryz.isAgg34 Tryz.sizeOf34 rfl rfl ⟨(rdA rfl),(rdA rfl),trivial⟩)<|aB 1 rfl ?_
 refine f_S (aV Tryz.call117 rfl (fun w_ O=>nlooked_spec N A l cap Ab bs cb Ac R cc q w_ (hr.up0 O) hl hN hok (hn.up0 O)) ?_);rintro _ _ ⟨r,x,rfl,rfl,ac⟩;dsimp only [aK,aJ];refine aB 3 rfl<|f_S (cQ Tryz.zeroValue171 rfl fun b8=>?_)
 refine f_Z (bP Tryz.sizeOf171 rfl rfl rfl rfl cF [fG r,.int .i64 x] rfl ?_);refine aB 1 rfl<|aD kh2<|aS fun kh3=>aG fun kh4=>aB 2 rfl<|aD kh4<|aX rfl (fun c18=>?_) (fun c18=>?_)
 ·refine aG fun ae=>aB 3 rfl<|aD ae<|aY<|cV ?_
  exact cZ [] Tryz.results72 rfl rfl aC ⟨by rw [if_pos (by simpa using c18)],rfl⟩
 ·have J:lkE N l bs (bG R) q=0:=by simpa using c18
  obtain ⟨hx,aa⟩:=ac J
  have ad:=List.mem_of_getElem? aa
  have U:=hn.rows r ad
  obtain ⟨n,k,ak,Y,aj,ab⟩:=lkE_zero J
  have Z:=Y.right ab
  have F:=qD aa aA
  rw [show q.toNat - 1=k by omega] at F;rw [F] at Z;have ai:=Y.n1
  have ah:=Y.many
  have ag:=(d6 Z).2
  have X:=e5 Z aA
  refine bV kh3<|aG fun kh6=>cL fa171_0 rfl<|cX Tryz.isAgg169 rfl (rdA rfl) ?_
  refine f_S (aV Tryz.call118 rfl (fun w_ O=>lmany_spec r.1 r.2.1 r.2.2 w_ (U.1.up0 O) aA U.2 (by have:=X _ (List.getElem_mem (show 0<r.2.1.length by omega));have:=mU (L:=r.2.1) (b:=2000) aA (fun x hx=>by have:=X x hx;omega);omega)) ?_);rintro _ _ ⟨rfl,rfl⟩;dsimp only [aK,aJ];refine aB 2 rfl<|aD kh6<|aY ?_
  exact cZ [] Tryz.results72 rfl rfl aC ⟨by rw [if_neg (by rw [J];simp),J,show q.toNat - 1=k by omega,F],rfl⟩
theorem cellOf_spec (N:Int) (A:Option Addr) (l:List Arc) (cap:Nat) (Ab:Option Addr) (bs:List Int) (cb:Nat) (Ac:Option Addr) (R:List Row) (cc:Nat) (q c:Int) (w:World) (hr:Ro (Fr w []) w A (l.flatMap bZ)) (hl:l.length≤9223372036854775807) (hN:I64 N) (hok:∀ x∈l,eK x) (hn:NestRo (Fr w []) w Ab bs Ac R):
    Meets Tryz.prog 94 [.agg #[.int .i64 N,.slice A l.length cap],.agg #[.slice Ab bs.length cb,.slice Ac R.length cc],.int .i64 q,.int .i64 c] w [] (fun u m=>∃ (r:Row) (x:Int),u= .tuple #[.agg #[fG r,.int .i64 x],.int .i64 (clE N l bs (bG R) q c)]∧m=[]∧(clE N l bs (bG R) q c=0→x=q∧R[(q - 1).toNat]? =some r)):=by
 refine bE Tryz.func94 rfl Tryz.ntmps94 rfl Owns.nil<|aG fun kh1=>f_S (cT rfl rfl fun b4=>?_)
 refine f_S (cT rfl rfl fun b5=>?_);refine f_S (cQ Tryz.zeroValue171 rfl fun b8=>?_);refine aB 1 rfl<|aD kh1<|aG fun kh2=>f_Q (aO (vs:=[_,_]) Tryz.isAgg24 Tryz.sizeOf24 rfl rfl ⟨(rdA rfl),(rdA rfl),trivial⟩)<|f_Q (aO (vs:=[_,_]) Tryz.isAgg34 Tryz.sizeOf34 rfl rfl ⟨(rdA rfl),(rdA rfl),trivial⟩)<|aB 1 rfl ?_
 refine f_S (aV Tryz.call117 rfl (fun w_ J=>nlooked_spec N A l cap Ab bs cb Ac R cc q w_ (hr.up0 J) hl hN hok (hn.up0 J)) ?_);rintro _ _ ⟨r,x,rfl,rfl,ae⟩;dsimp only [aK,aJ];refine aB 3 rfl<|f_S (cQ Tryz.zeroValue171 rfl fun b10=>?_)
 refine f_Z (bP Tryz.sizeOf171 rfl rfl rfl rfl cF [fG r,.int .i64 x] rfl ?_);refine aB 1 rfl<|aD kh2<|aS fun kh3=>aG fun kh4=>aB 2 rfl<|aD kh4<|aX rfl (fun c20=>?_) (fun c20=>?_)
 ·refine aG fun ai=>f_Q (dL (cs:=[fG (none,[],0),.int .i64 0]) st171 rfl rfl)<|aB 1 rfl<|f_Z (bP Tryz.sizeOf171 rfl rfl rfl rfl cF [fG (none,[],0),.int .i64 0] rfl ?_)
  refine aB 1 rfl<|aD ai<|aY<|cV ?_
  have e:clE N l bs (bG R) q c=lkE N l bs (bG R) q:=by unfold clE;rw [if_pos (by simpa using c20)]
  exact gW (vs:=[fG (none,[],0),.int .i64 0]) [] Tryz.results94 rfl Tryz.isAgg171 Tryz.sizeOf171 rfl ⟨(rdA rfl),(rdA rfl),trivial⟩ rfl aC ⟨(none,[],0),0,by rw [e],rfl,fun h=>absurd (e.symm.trans h) (by simpa using c20)⟩
 ·have Z:lkE N l bs (bG R) q=0:=by simpa using c20
  obtain ⟨hx,aa⟩:=ae Z
  have ah:=List.mem_of_getElem? aa
  have O:=hn.rows r ah
  obtain ⟨n,k,an,X,am,ad⟩:=lkE_zero Z
  have Y:=X.right ad
  have F:=qD aa aA
  rw [show q.toNat - 1=k by omega] at F;rw [F] at Y;have al:=X.n1
  have ak:=X.many
  have aj:=(d6 Y).2
  have U:=e5 Y aA
  have ac:e9 r.2.1≤1000000∧-1000000≤e9 r.2.1:=by
    have:=U _ (List.getElem_mem (show 0<r.2.1.length by omega))
    have:=mU (L:=r.2.1) (b:=2000) aA (fun x hx=>by have:=U x hx;omega)
    omega
  have ab:clE N l bs (bG R) q c=if c<0∨e9 r.2.1+1≤c then 120 else 0:=by unfold clE;rw [if_neg (by rw [Z];simp),show q.toNat - 1=k by omega,F]
  refine bV kh3<|aS fun kh6=>aG fun kh7=>aB 3 rfl<|d8 25 rfl (fun g25=>?_) (fun g25=>?_)
  ·refine aB 6 rfl<|aD kh7<|fI rfl<|aG fun kh8=>f_Q (dL (cs:=[fG (none,[],0),.int .i64 0]) st171 rfl rfl)<|f_Z (bP Tryz.sizeOf171 rfl rfl rfl rfl cF [fG (none,[],0),.int .i64 0] rfl ?_)
   refine aB 1 rfl<|aD kh8<|aY<|cV ?_
   have e:=ab.trans (if_pos aA)
   exact gW (vs:=[fG (none,[],0),.int .i64 0]) [] Tryz.results94 rfl Tryz.isAgg171 Tryz.sizeOf171 rfl ⟨(rdA rfl),(rdA rfl),trivial⟩ rfl aC ⟨(none,[],0),0,by rw [e],rfl,fun h=>absurd (e.symm.trans h) (by decide)⟩
  ·refine aB 1 rfl<|eA rfl rfl (aT fa171_0 rfl)<|eA rfl rfl (aH Tryz.isAgg169 rfl (rdA rfl)) ?_
   refine jY rfl rfl rfl rfl rfl (aV Tryz.call118 rfl (fun w_ J=>lmany_spec r.1 r.2.1 r.2.2 w_ (O.1.up0 J) aA O.2 ac) ?_);rintro _ _ ⟨rfl,rfl⟩;dsimp only [aK,aJ];refine aB 2 rfl<|aD kh7<|aX rfl (fun c31=>?_) (fun c31=>?_)
   ·refine aG fun ag=>f_Q (dL (cs:=[fG (none,[],0),.int .i64 0]) st171 rfl rfl)<|f_Z (bP Tryz.sizeOf171 rfl rfl rfl rfl cF [fG (none,[],0),.int .i64 0] rfl ?_)
    refine aB 1 rfl<|aD ag<|aY<|cV ?_
    have e:=ab.trans (if_pos aA)
    exact gW (vs:=[fG (none,[],0),.int .i64 0]) [] Tryz.results94 rfl Tryz.isAgg171 Tryz.sizeOf171 rfl ⟨(rdA rfl),(rdA rfl),trivial⟩ rfl aC ⟨(none,[],0),0,by rw [e],rfl,fun h=>absurd (e.symm.trans h) (by decide)⟩
   ·refine bV kh6<|aG fun kh10=>f_Q (aO (vs:=[fG r,.int .i64 x]) Tryz.isAgg171 Tryz.sizeOf171 rfl rfl ⟨(rdA rfl),(rdA rfl),trivial⟩)<|f_Z (bP Tryz.sizeOf171 rfl rfl rfl rfl cF [fG r,.int .i64 x] rfl ?_)
    refine aB 1 rfl<|aD kh10<|aY ?_
    have e:=ab.trans (if_neg aA)
    exact gW (vs:=[fG r,.int .i64 x]) [] Tryz.results94 rfl Tryz.isAgg171 Tryz.sizeOf171 rfl ⟨(rdA rfl),(rdA rfl),trivial⟩ rfl aC ⟨r,x,by rw [e],rfl,fun _=>⟨hx,aa⟩⟩
theorem NMembers_spec (N:Int) (A:Option Addr) (l:List Arc) (cap:Nat) (Ab:Option Addr) (bs:List Int) (cb:Nat) (Ac:Option Addr) (R:List Row) (cc:Nat) (q c:Int) (w:World) (hr:Ro (Fr w []) w A (l.flatMap bZ)) (hl:l.length≤9223372036854775807) (hN:I64 N) (hok:∀ x∈l,eK x) (hn:NestRo (Fr w []) w Ab bs Ac R):
    Meets Tryz.prog 58 [.agg #[.int .i64 N,.slice A l.length cap],.agg #[.slice Ab bs.length cb,.slice Ac R.length cc],.int .i64 q,.int .i64 c] w [] (fun u own' =>∃ (M:List Int) (A' :Option Addr) (c' :Nat) (m' :Seg),u= .tuple #[.slice A' M.length c',.int .i64 (clE N l bs (bG R) q c)]∧own' =[m']∧Own 3 1 (.slice A' M.length c') M.length (bF M) m'∧(clE N l bs (bG R) q c≠0→M=[])∧(clE N l bs (bG R) q c=0→M=hZ ((bG R).getD (q.toNat - 1) []) c ((bG R).getD (q.toNat - 1) []).length)):=by
 refine bE Tryz.func58 rfl Tryz.ntmps58 rfl Owns.nil<|aG fun kh1=>f_S (cT rfl rfl fun b4=>?_)
 refine f_S (cT rfl rfl fun b5=>?_);refine aB 2 rfl<|aD kh1<|aG fun kh2=>f_Q (aO (vs:=[_,_]) Tryz.isAgg24 Tryz.sizeOf24 rfl rfl ⟨(rdA rfl),(rdA rfl),trivial⟩)<|f_Q (aO (vs:=[_,_]) Tryz.isAgg34 Tryz.sizeOf34 rfl rfl ⟨(rdA rfl),(rdA rfl),trivial⟩)<|aB 2 rfl ?_
 refine f_S (aV Tryz.call94 rfl (fun w_ U=>cellOf_spec N A l cap Ab bs cb Ac R cc q c w_ (hr.up0 U) hl hN hok (hn.up0 U)) ?_);rintro _ _ ⟨r,x,rfl,rfl,ad⟩;dsimp only [aK,aJ];refine aB 3 rfl<|f_S (cQ Tryz.zeroValue171 rfl fun b10=>?_)
 refine f_Z (bP Tryz.sizeOf171 rfl rfl rfl rfl cF [fG r,.int .i64 x] rfl ?_);refine aB 1 rfl<|aD kh2<|aS fun kh3=>aG fun kh4=>aB 2 rfl<|aD kh4<|aX rfl (fun c21=>?_) (fun c21=>?_)
 ·refine aG fun ag=>aB 3 rfl<|aD ag<|aY<|cV ?_
  exact cZ [[]] Tryz.results58 rfl rfl (show Fly.Sub _ [[]] from aC) ⟨[],none,0,[],rfl,rfl,Own.nil _ _,fun _=>rfl,fun h=>absurd h (by simpa using c21)⟩
 ·have J:clE N l bs (bG R) q c=0:=by simpa using c21
  obtain ⟨hx,Z⟩:=ad J
  have ao:=clE_row J
  have ae:=List.mem_of_getElem? Z
  have aa:=hn.rows r ae
  obtain ⟨n,k,j,aq,O,an,ac,ai,ab⟩:=j7 J
  have X:=O.right ac
  have F:=qD Z aA
  rw [show q.toNat - 1=k by omega] at F;rw [F] at X ab;have am:=O.n1
  have ak:=O.many
  have aj:=(d6 X).2
  have al:=O.len
  rw [d5] at al;have Y:=mem_pos X aA ab
  rw [← ai] at Y;refine bV kh3<|aG fun kh6=>cL fa171_0 rfl<|cX Tryz.isAgg169 rfl (rdA rfl)<|aB 1 rfl ?_
  refine f_S (aV Tryz.call95 rfl (fun w_ U=>lmem_spec r.1 r.2.1 r.2.2 c w_ (aa.1.up0 U) aA) ?_);rintro _ _ ⟨Am,cm,mm,rfl,rfl,ah⟩;have ap:=pL r.2.1 c r.2.1.length
  dsimp only [aK,aJ];refine aB 2 rfl<|aD kh6<|aY ?_
  exact cZ [mm] Tryz.results58 rfl rfl aC ⟨_,Am,cm,mm,by rw [J],rfl,ah,fun h=>absurd J h,fun _=>by rw [show q.toNat - 1=k by omega,F]⟩
theorem NChildren_spec (N:Int) (A:Option Addr) (l:List Arc) (cap:Nat) (Ab:Option Addr) (bs:List Int) (cb:Nat) (Ac:Option Addr) (R:List Row) (cc:Nat) (q c:Int) (w:World) (hr:Ro (Fr w []) w A (l.flatMap bZ)) (hl:l.length≤9223372036854775807) (hN:I64 N) (hok:∀ x∈l,eK x) (hn:NestRo (Fr w []) w Ab bs Ac R):
    Meets Tryz.prog 123 [.agg #[.int .i64 N,.slice A l.length cap],.agg #[.slice Ab bs.length cb,.slice Ac R.length cc],.int .i64 q,.int .i64 c] w [] (fun u own' =>∃ (M:List Int) (A' :Option Addr) (c2:Nat) (m' :Seg),u= .tuple #[.slice A' M.length M.length,.int .i64 (chE N l bs (bG R) q c)]∧own' =[m']∧Own 3 1 (.slice A' M.length c2) M.length (bF M) m'∧(chE N l bs (bG R) q c≠0→M=[])∧(chE N l bs (bG R) q c=0→M=chL (bG R) q c)):=by
 refine bE Tryz.func123 rfl Tryz.ntmps123 rfl Owns.nil<|aG fun kh1=>f_S (cT rfl rfl fun b4=>?_)
 refine f_S (cT rfl rfl fun b5=>?_);refine aB 2 rfl<|aD kh1<|aG fun kh2=>f_Q (aO (vs:=[_,_]) Tryz.isAgg24 Tryz.sizeOf24 rfl rfl ⟨(rdA rfl),(rdA rfl),trivial⟩)<|f_Q (aO (vs:=[_,_]) Tryz.isAgg34 Tryz.sizeOf34 rfl rfl ⟨(rdA rfl),(rdA rfl),trivial⟩)<|aB 2 rfl ?_
 refine f_S (aV Tryz.call94 rfl (fun w_ hp_=>cellOf_spec N A l cap Ab bs cb Ac R cc q c w_ (hr.up0 hp_) hl hN hok (hn.up0 hp_)) ?_);rintro _ _ ⟨r,x,rfl,rfl,bf⟩;dsimp only [aK,aJ];refine aB 3 rfl<|f_S (cQ Tryz.zeroValue171 rfl fun b10=>?_)
 refine f_Z (bP Tryz.sizeOf171 rfl rfl rfl rfl cF [fG r,.int .i64 x] rfl ?_);refine aB 1 rfl<|aD kh2<|aS fun kh3=>aG fun kh4=>aB 2 rfl<|aD kh4<|aX rfl (fun c25=>?_) (fun c25=>?_)
 ·refine aG fun ar=>aB 3 rfl<|aD ar<|aY<|cV ?_
  have e:chE N l bs (bG R) q c=clE N l bs (bG R) q c:=by unfold chE;rw [if_pos (by simpa using c25)]
  exact cZ [[]] Tryz.results123 rfl rfl (show Fly.Sub _ [[]] from aC) ⟨[],none,0,[],by rw [e];rfl,rfl,Own.nil _ _,fun _=>rfl,fun h=>absurd (e.symm.trans h) (by simpa using c25)⟩
 ·have O:clE N l bs (bG R) q c=0:=by simpa using c25
  obtain ⟨hx,ae⟩:=bf O
  have bC:=clE_row O
  have az:=List.mem_of_getElem? ae
  have ak:=hn.rows r az
  obtain ⟨n,k,j,bD,U,bq,be,a2,aj⟩:=j7 O
  have ac:=U.right be
  have J:=qD ae aA
  rw [show q.toNat - 1=k by omega] at J;rw [J] at ac aj;have bv:=U.n1
  have bh:=U.many
  have aw:=(d6 ac).2
  have ax:=U.len
  rw [d5] at ax;have ab:=mem_pos ac aA aj
  rw [← a2] at ab;refine bV kh3<|aS fun kh6=>aG fun kh7=>cL fa171_1 rfl<|cX Tryz.isAgg3 rfl (rdA rfl)<|aB 1 rfl<|aD kh7<|aX rfl (fun c29=>?_) (fun c29=>?_)
  ·refine aG fun an=>aB 2 rfl<|aD an<|aY<|cV ?_
   have e:chE N l bs (bG R) q c=111:=by unfold chE;rw [if_neg (by rw [O];simp),if_pos aA]
   exact cZ [[]] Tryz.results123 rfl rfl (show Fly.Sub _ [[]] from aC) ⟨[],none,0,[],by rw [e];rfl,rfl,Own.nil _ _,fun _=>rfl,fun h=>absurd (e.symm.trans h) (by decide)⟩
  ·have bu:1≤k:=aA
   have F:k - 1<R.length:=aA
   have ah:=hn.rows _ (List.getElem_mem F)
   have X:=U.right (k:=k - 1) aA
   rw [iF F] at X;have bg:=(d6 X).2
   refine bV kh6<|aG fun kh9=>f_Q (aO (vs:=[_,_]) Tryz.isAgg34 Tryz.sizeOf34 rfl rfl ⟨(rdA rfl),(rdA rfl),trivial⟩)<|aB 1 rfl<|f_Q (jC rfl rfl) ?_
   refine f_S (aV Tryz.call152 rfl (fun w_ hp_ => (by have h := at_spec Ab bs cb Ac R cc (k - 1) w_ (hn.up0 hp_) F; rw [show ((((k - 1 : Nat) : Int)) + 1) = q - 1 by omega] at h; exact h)) ?_);rintro _ _ ⟨rfl, rfl⟩;dsimp only [aK, aJ];refine f_S (cQ Tryz.zeroValue171 rfl fun bc => ?_);refine f_Z (bP Tryz.sizeOf171 rfl rfl rfl rfl cF [fG (R[k - 1]'F), .int .i64 (q - 1)] rfl ?_);refine aD kh9 <| aG fun kh10 => aB 1 rfl <| aD kh10 <| aS fun kh11 => aG fun ag => cL fa171_0 rfl <| cX Tryz.isAgg169 rfl (rdA rfl) <| aB 1 rfl ?_
   refine f_S (aV Tryz.call95 rfl (fun w_ hp_=>lmem_spec r.1 r.2.1 r.2.2 c w_ (ak.1.up0 hp_) aA) ?_);rintro _ _ ⟨Am,cm,mm,rfl,rfl,au⟩;have bk:=pL r.2.1 c r.2.1.length
   dsimp only [aK,aJ];refine dU bX rfl<|aB 1 rfl<|aD ag<|aR ?_
   refine dA (α := Nat × Value × Seg) [12, 37, 38] (fun ⟨i, ov, Z⟩ => [(39, .int .i64 (i : Int)), (13, ov)]) (fun ⟨i, ov, Z⟩ => [Z, mm, [(bc, blk [fG (R[k - 1]'F), .int .i64 (q - 1)] 171)]]) (fun ⟨i, ov, Z⟩ => i ≤ (hZ r.2.1 c r.2.1.length).length ∧ Own 3 1 ov (lowL (R[k - 1]'F).2.1 ((hZ r.2.1 c r.2.1.length).take i)).length (bF (lowL (R[k - 1]'F).2.1 ((hZ r.2.1 c r.2.1.length).take i))) Z) (fun ⟨i, ov, Z⟩ => (hZ r.2.1 c r.2.1.length).length - i) (0, .slice none 0 0, []) ?_ ?_ ?_ ?_
   ·exact aF
   ·exact aC
   ·exact ⟨Nat.zero_le _,Own.nil _ _⟩
   ·rintro ⟨i, ov, Z⟩ ⟨bt, hO⟩;have ba := lowL_len (R[k - 1]'F).2.1 ((hZ r.2.1 c r.2.1.length).take i)
    rw [List.length_take] at ba;obtain ⟨Ao,co,rfl,bp⟩:=hO.val
    refine aG fun kh13=>aB 1 rfl<|aD kh13<|aS fun kh14=>aX rfl (fun bi=>?_) (fun bi=>?_)
    ·have hi:i<(hZ r.2.1 c r.2.1.length).length:=aA
     obtain ⟨bM,bw,rfl,rfl⟩:=au.at_ aA
     obtain ⟨v,hv,bB,br⟩:=memTo_mem.1 (List.getElem_mem hi)
     obtain ⟨bl, ol, ao, ap, aq⟩ := ah.1 (fun e => by have := a7 (R[k - 1]'F).2.1; rw [e] at this; simp at this; omega)
     have aa : v < (R[k - 1]'F).2.1.length := aA
     have av := lowL_next (B := (R[k - 1]'F).2.1) hi
     have ay : (R[k - 1]'F).2.1.getD (hZ r.2.1 c r.2.1.length)[i].toNat 0 = (R[k - 1]'F).2.1[v] := by rw [hv, Int.toNat_natCast]; simp [List.getD_eq_getElem?_getD, aa]
     refine bV kh14<|aS fun kh15=>aR<|aG fun kh16=>f_Q (aL bX rfl rfl (i))<|f_Q (aH Tryz.isAgg3 rfl (rdA (v:= .int .i64 (v:Int)) (eF (by rw [eG hi,hv])))) ?_
     refine aB 1 rfl <| aD kh16 <| aI <| aB 1 rfl <| cL fa171_0 rfl <| f_Q (aH Tryz.isAgg169 rfl (v := .slice (some ⟨bl, ol, none⟩) (R[k - 1]'F).2.1.length (R[k - 1]'F).2.2) (rdA (by rw [← ao]; rfl))) ?_
     refine aB 1 rfl<|f_Q (aL sl169 rfl rfl (ol+v))<|f_Q (aH Tryz.isAgg3 rfl (d3 (enc:=(.int .i64 ·)) ap aq aa))<|f_S (bQ eL aA rfl rfl rfl fun b49=>?_)
     refine f_S (dE eL rfl rfl hO (ys := [.int .i64 (R[k - 1]'F).2.1[v]]) ⟨(rdA rfl), trivial⟩ rfl rfl aA aA fun v50 a1 am => ?_);refine aB 1 rfl <| aZ <| dF <| bO kh15 <| aI <| f_Q (a8 rfl rfl) <| aB 1 rfl <| aZ ?_
     refine cS (a6 (i+1,v50,a1) (by first|omega|(dsimp only;omega)|(simp;omega)) ⟨aA,by rw [av,ay,List.length_append,eJ];exact am⟩ ?_ ?_ ?_)
     ·exact aF
     ·exact aF
     ·exact aC
    ·obtain rfl:i=(hZ r.2.1 c r.2.1.length).length:=aA
     rw [List.take_length] at hO;obtain ⟨LO, Y⟩ : ∃ LO, lowL (R[k - 1]'F).2.1 (hZ r.2.1 c r.2.1.length) = LO := ⟨_, rfl⟩
     have bj:LO.length=(hZ r.2.1 c r.2.1.length).length:=by rw [← Y,lowL_len]
     rw [Y] at hO;refine f_reC 13 rfl (v:= .slice Ao LO.length co) (by rw [List.take_length,Y]) ?_;refine cN<|cO<|cO<|eC<|bO kh11<|aG fun kh17=>aB 1 rfl ?_
     refine f_S (d4 [Z] _ Tryz.call22 rfl (by repeat (first|exact Sub.refl|refine aM ?_)) (fun w_ hp_=>j9 Ao co LO Z w_ hO aA hp_.owns) ?_);rintro _ _ ⟨rfl,m2,rfl,al⟩;dsimp only [aK,aJ];refine aD kh17<|aG fun kh18=>aB 1 rfl ?_
     refine f_S (d4 [m2] _ Tryz.call24 rfl (by repeat (first|exact Sub.refl|refine aM ?_)) (fun w_ hp_=>(by have h:=k8 Ao co (gT LO) m2 w_ (by rw [e6];exact al) (by rw [e6];omega) hp_.owns;rw [e6] at h;exact h)) ?_);rintro v55 _ ⟨m3,rfl,ad⟩;obtain ⟨A3,c3,rfl,ai⟩:=ad.val
     dsimp only [aK,aJ];refine f_S (aV Tryz.call159 rfl (fun w_ hp_=>Clip_spec A3 (cpt (gT LO)).length c3 w_ ai.1 ai.2 (j5 ad)) ?_);rintro _ _ ⟨rfl,rfl⟩;dsimp only [aK,aJ];refine aB 2 rfl<|aD kh18<|aY ?_
     have e:chE N l bs (bG R) q c=0:=by unfold chE;rw [if_neg (by rw [O];simp),if_neg aA]
     exact cZ [m3] Tryz.results123 rfl rfl aC ⟨_,A3,c3,m3,by rw [e],rfl,ad,fun h=>absurd e h,fun _=>by unfold chL;rw [show q.toNat - 1=k by omega,show q.toNat - 2=k - 1 by omega,J,iF F,Y]⟩
theorem Ro.held {w w' :World} {A:Option Addr} {cs:List Value} (h:Ro (Fr w []) w A cs) (hs:∀ k,Fr w [] k→w'.heap[k]? =w.heap[k]?):Ro (Fr w' []) w' A cs:=fun hne=>by
 obtain ⟨b,off,rfl,J,hc⟩:=h hne
 have F:=hs b J
 refine ⟨b,off,rfl,⟨?_,aN⟩,hc.same F⟩
 rcases Nat.lt_or_ge b w'.heap.size with h' |h'
 ·exact h'
 ·rw [Array.getElem?_eq_none h',Array.getElem?_eq_getElem J.1] at F;cases F
def inP (L:List Int) (c:Int) (a:Arc):Bool:=decide (L.getD a.src.toNat 0=c)&&decide (L.getD a.dst.toNat 0=c)
def unP (L:List Int) (a:Arc):Bool:=decide (L.getD a.src.toNat 0≠L.getD a.dst.toNat 0)
def btP (L B:List Int) (c:Int) (a:Arc):Bool:=inP L c a&&unP B a
def bwE (N:Int) (l:List Arc) (bs:List Int) (L:List (List Int)) (q c:Int):Int:=if clE N l bs L q c≠0 then clE N l bs L q c else if q=1 then 111 else 0
theorem kX {α:Type} (p:α→Bool) (l:List α):(gF p l).length≤l.length:=by
 unfold gF;rw [List.length_map];exact Nat.le_trans (List.length_filter_le _ _) aN
theorem eM {L:List Int} {i:Nat} (h:i<L.length):L.getD i 0=L[i]:=by simp [List.getD_eq_getElem?_getD,h]
theorem cut_spec (A:Option Addr) (len cap:Nat) (w:World) (h:len≤cap) (hm:cap≤9223372036854775807) (hA:A=none→len=0):
    Meets Tryz.prog 23 [.slice A len cap] w [] (fun u m=>u= .slice A len len∧m=[]):=by
 refine bE Tryz.func23 rfl Tryz.ntmps23 rfl Owns.nil<|aG fun kh1=>aB 1 rfl<|aD kh1<|aG fun kh2=>aB 2 rfl<|dU bX rfl<|aB 1 rfl<|dU bX rfl<|f_Q (f7 bX rfl rfl rfl rfl (fun _=>rfl) 0 len len (.inl ⟨rfl,rfl⟩) (.inr ⟨_,_,rfl,aA⟩) (.inr ⟨_,_,rfl,aA⟩) ⟨aA,aA,aA⟩ (.slice A len len) (by rw [Nat.sub_zero];congr 1;split;rfl;cases A with|none=>rfl|some x=>obtain ⟨p,q,r⟩:=x;cases r<;>simp [Addr.add])) ?_
 refine aB 1 rfl<|aD kh2<|aY ?_
 exact bJ [] Tryz.results23 rfl aP ⟨rfl,rfl⟩
theorem q9 (N:Int) (A:Option Addr) (l:List Arc) (cap:Nat) (Y:Option Addr) (bs:List Int) (cb:Nat) (Ac:Option Addr) (R:List Row) (cc:Nat) (q c:Int) (w:World) (hr:Ro (Fr w []) w A (l.flatMap bZ)) (hl:l.length≤9223372036854775807) (hN:I64 N) (hok:∀ x∈l,eK x) (hn:NestRo (Fr w []) w Y bs Ac R):
    Meets Tryz.prog 21 [.agg #[.int .i64 N,.slice A l.length cap],.agg #[.slice Y bs.length cb,.slice Ac R.length cc],.int .i64 q,.int .i64 c] w [] (fun u m=>∃ r:Row,u= .tuple #[fG r,.int .i64 (clE N l bs (bG R) q c)]∧m=[]∧(clE N l bs (bG R) q c≠0→r=(none,[],0))∧(clE N l bs (bG R) q c=0→R[(q - 1).toNat]? =some r)):=by
 refine bE Tryz.func21 rfl Tryz.ntmps21 rfl Owns.nil<|aG fun kh1=>f_S (cT rfl rfl fun b4=>?_)
 refine f_S (cT rfl rfl fun b5=>?_);refine aB 2 rfl<|aD kh1<|aS fun kh2=>aG fun kh3=>f_Q (aO (vs:=[_,_]) Tryz.isAgg24 Tryz.sizeOf24 rfl rfl ⟨(rdA rfl),(rdA rfl),trivial⟩)<|f_Q (aO (vs:=[_,_]) Tryz.isAgg34 Tryz.sizeOf34 rfl rfl ⟨(rdA rfl),(rdA rfl),trivial⟩)<|aB 2 rfl ?_
 refine f_S (aV Tryz.call58 rfl (fun w_ U=>NMembers_spec N A l cap Y bs cb Ac R cc q c w_ (hr.up0 U) hl hN hok (hn.up0 U)) ?_);rintro _ _ ⟨M_,AM,cM,mM,rfl,rfl,am,ag,aj⟩;dsimp only [aK,aJ];refine aB 5 rfl<|aD kh3<|aG fun kh4=>aB 2 rfl<|aD kh4<|aX rfl (fun c21=>?_) (fun c21=>?_)
 ·refine aG fun Z=>aB 3 rfl<|aD Z<|aY<|cV ?_
  exact cZ [] Tryz.results21 rfl rfl aP ⟨(none,[],0),rfl,rfl,fun _=>rfl,fun h=>absurd h (by simpa using c21)⟩
 ·have J:clE N l bs (bG R) q c=0:=by simpa using c21
  obtain ⟨n,k,j,ak,O,ah,ae,ai,al⟩:=j7 J
  have ac:=O.len
  rw [d5] at ac;have ab:=O.many
  have F:k<R.length:=aA
  obtain ⟨b0,o0,X,ad,aa⟩:=hn.c (fX F)
  refine bV kh2<|aG fun kh6=>cL jD rfl<|f_Q (aH Tryz.isAgg32 rfl (v:= .slice (some ⟨b0,o0,none⟩) R.length cc) (rdA (by rw [← X];rfl))) ?_
  refine aB 1 rfl<|f_Q (kM rfl rfl _ (Eq.trans (d7 aA) (show _=(k:Int) by omega))) ?_
  refine f_Q (aL gL rfl rfl (o0+k))<|f_Q (aH Tryz.isAgg25 rfl (d3 (enc:=fG) ad aa F))<|aB 2 rfl<|aD kh6<|aY ?_
  exact cZ [] Tryz.results21 rfl rfl aP ⟨_,by rw [J],rfl,fun h=>absurd J h,fun _=>by rw [show (q - 1).toNat=k by omega];exact List.getElem?_eq_getElem F⟩
theorem chosen_spec (N:Int) (A:Option Addr) (l:List Arc) (cap:Nat) (p:Arc→Bool) (Z:FuncId) (J:List Value) (w:World) (hr:Ro (Fr w []) w A (l.flatMap bZ)) (hl:l.length≤8192) (ac:∀ args w,(callFunc Z args).run Tryz.prog w= .ok (.enter Z args) w)
    (aa:∀ w',(∀ k,Fr w [] k→w'.heap[k]? =w.heap[k]?)→∀ i (hi:i<l.length),Meets Tryz.prog Z ([.agg (bZ l[i]).toArray]++J) w' [] (fun u m=>u= .bool (p l[i])∧m=[])):
    Meets Tryz.prog 154 [.agg #[.int .i64 N,.slice A l.length cap],.func (.func Z) #[] J.toArray] w [] (fun u own' =>∃ A' c' m',u= .slice A' (gF p l).length (gF p l).length∧own' =[m']∧Own 3 1 (.slice A' (gF p l).length c') (gF p l).length (bF (gF p l)) m'):=by
 refine bE Tryz.func154 rfl Tryz.ntmps154 rfl Owns.nil<|aG fun kh1=>f_S (cT rfl rfl fun b2=>?_)
 refine aB 1 rfl<|aD kh1<|aG fun kh2=>aB 1 rfl<|aD kh2<|aS fun kh3=>aG fun ag=>cL fT rfl<|cX Tryz.isAgg22 rfl (rdA rfl)<|dU jB rfl ?_
 refine aB 1 rfl<|aD ag<|aR ?_
 refine dA (α:=Nat×Value×Seg) [1,9,10] (fun ⟨k,ov,F⟩=>[(11,.int .i64 (k:Int)),(5,ov)]) (fun ⟨k,ov,F⟩=>[F]) (fun ⟨k,ov,F⟩=>k≤l.length∧Own 3 1 ov (gF p (l.take k)).length (bF (gF p (l.take k))) F) (fun ⟨k,ov,F⟩=>l.length - k) (0,.slice none 0 0,[]) ?_ ?_ ?_ ?_
 ·exact aF
 ·exact aC
 ·exact ⟨Nat.zero_le _,Own.nil _ _⟩
 ·rintro ⟨k,ov,F⟩ ⟨ah,U⟩;have X:=kX p (l.take k)
  rw [List.length_take] at X;obtain ⟨Ao,co,rfl,O⟩:=U.val
  refine aG fun kh5=>aB 1 rfl<|aD kh5<|aS fun kh6=>aX rfl (fun ab=>?_) (fun ab=>?_)
  ·have hk:k<l.length:=aA
   obtain ⟨bl,off,rfl,hS,hc⟩:=hr (eX bZ dD aA hk)
   refine bV kh6<|aS fun kh7=>aR<|aG fun kh8=>aB 1 rfl<|f_Q (aL jB rfl rfl (off+k*3))<|f_Q (aO (vs:=bZ l[k]) Tryz.isAgg69 Tryz.sizeOf69 rfl rfl (f8 dD hS hc hk))<|f_S (cQ Tryz.zeroValue69 rfl fun b7=>?_)
   refine aB 1 rfl<|f_Z (bP Tryz.sizeOf69 rfl rfl rfl rfl cF (bZ l[k]) rfl ?_)
   refine aD kh8<|aG fun kh9=>aB 1 rfl<|f_Q (aO (vs:=[_,_,_]) Tryz.isAgg69 Tryz.sizeOf69 rfl rfl ⟨(rdA rfl),(rdA rfl),(rdA rfl),trivial⟩) ?_
   refine f_S (jG [] _ ac rfl rfl Sub.refl (fun w_ Y=>(by have h:=aa w_ (fun k hk=>Y.same k hk) k hk;exact h)) ?_);rintro _ _ ⟨rfl,rfl⟩;dsimp only [aK,aJ];refine aD kh9<|eO rfl (fun c18=>?_) (fun c18=>?_)
   ·refine aI<|aB 2 rfl<|f_S (bQ eL aA rfl rfl rfl fun b21=>?_)
    refine f_S (dE eL rfl rfl U (ys:=[.int .i64 (k:Int)]) ⟨(rdA rfl),trivial⟩ rfl rfl aA aA fun v22 ae ad=>?_);refine aB 1 rfl<|aZ<|dF<|bO kh7<|aI<|f_Q (a8 rfl rfl)<|aB 1 rfl<|aZ ?_
    refine cS (a6 (k+1,v22,ae) (by first|omega|(dsimp only;omega)|(simp;omega)) ⟨aA,by rw [nQ hk c18,List.length_append,eJ];exact ad⟩ ?_ ?_ ?_)
    ·exact aF
    ·exact aF
    ·exact aC
   ·refine dY<|dF<|bO kh7<|aI<|f_Q (a8 rfl rfl)<|aB 1 rfl<|aZ ?_
    refine cS (a6 (k+1,.slice Ao (gF p (l.take k)).length co,F) (by first|omega|(dsimp only;omega)|(simp;omega)) ⟨aA,by rw [lP hk (by simpa using c18)];exact U⟩ ?_ ?_ ?_)
    ·exact aF
    ·exact aF
    ·exact aC
  ·obtain rfl:k=l.length:=aA
   rw [List.take_length] at U O X;refine f_reC 5 rfl (v:= .slice Ao (gF p l).length co) (by rw [List.take_length]) ?_;refine cN<|cO<|cO<|eC<|bO kh3<|aG fun kh10=>aB 1 rfl ?_
   refine f_S (aV Tryz.call23 rfl (fun w_ Y=>cut_spec Ao (gF p l).length co w_ O.1 O.2 (j5 U)) ?_);rintro _ _ ⟨rfl,rfl⟩;dsimp only [aK,aJ];refine aB 1 rfl<|aD kh10<|aY ?_
   exact bJ [F] Tryz.results154 rfl aC ⟨Ao,co,F,rfl,rfl,U⟩
theorem Inner1_spec (a:Arc) (b1 b2:Nat) (B:Option Addr) (L:List Int) (cb:Nat) (c:Int) (w:World) (h1:Ro (Fr w []) w (some ⟨b1,0,none⟩) [.slice B L.length cb]) (h2:Ro (Fr w []) w (some ⟨b2,0,none⟩) [.int .i64 c]) (hL:Ro (Fr w []) w B (bF L)) (hs:0≤a.src∧a.src<(L.length:Int)) (hd:0≤a.dst∧a.dst<(L.length:Int)):
    Meets Tryz.prog 155 ([.agg (bZ a).toArray]++[.pointer (some ⟨b1,0,none⟩),.pointer (some ⟨b2,0,none⟩)]) w [] (fun u m=>u= .bool (inP L c a)∧m=[]):=by
 have J:a.src.toNat<L.length:=aA
 have F:a.dst.toNat<L.length:=aA
 obtain ⟨ad,ab,ag,O,Y⟩:=h1 aN
 obtain ⟨rfl,rfl⟩:b1=ad∧0=ab:=by cases ag;exact ⟨rfl,rfl⟩
 obtain ⟨ac,ae,ah,aa,X⟩:=h2 aN
 obtain ⟨rfl,rfl⟩:b2=ac∧0=ae:=by cases ah;exact ⟨rfl,rfl⟩
 obtain ⟨br,or,rfl,U,Z⟩:=hL (fun e=>by have:=a7 L;rw [e] at this;simp at this;omega)
 refine bE Tryz.func155 rfl Tryz.ntmps155 rfl Owns.nil<|aG fun kh1=>f_S (cT rfl rfl fun b3=>?_)
 refine aB 1 rfl<|aD kh1<|aS fun kh2=>gG 16 rfl aW<|dB (aH Tryz.isAgg25 rfl (rdS O (Y 0 _ rfl)))<|dB (aT fY rfl)<|gC Tryz.isAgg3 rfl (rdA rfl)<|dB (aL bX rfl rfl (or+a.src.toNat))<|dB (aH Tryz.isAgg3 rfl (d3 (enc:=(.int .i64 ·)) U Z J))<|dB (aH Tryz.isAgg3 rfl (rdS aa (X 0 _ rfl))) ?_
 refine dI 2 rfl<|f_splitS 12 rfl (fun g12=>?_) (fun g12=>?_)
 ·refine dQ rfl rfl rfl rfl rfl (aH Tryz.isAgg25 rfl (rdS O (Y 0 _ rfl)))<|dQ rfl rfl rfl rfl rfl (aT fO rfl)<|dQ rfl rfl rfl rfl rfl (aH Tryz.isAgg3 rfl (rdA rfl))<|dQ rfl rfl rfl rfl rfl (aL bX rfl rfl (or+a.dst.toNat))<|dQ rfl rfl rfl rfl rfl (aH Tryz.isAgg3 rfl (d3 (enc:=(.int .i64 ·)) U Z F))<|dQ rfl rfl rfl rfl rfl (aH Tryz.isAgg3 rfl (rdS aa (X 0 _ rfl)))<|dI 2 rfl<|eI (iX ?_)
  refine aB 1 rfl<|aD kh2<|aY ?_
  exact bJ [] Tryz.results155 rfl aP ⟨by unfold inP;rw [eM J,eM F,decide_eq_true g12];rfl,rfl⟩
 ·refine dI 8 rfl<|eI (iX ?_)
  refine aB 1 rfl<|aD kh2<|aY ?_
  exact bJ [] Tryz.results155 rfl aP ⟨by unfold inP;rw [eM J,eM F,decide_eq_false g12];rfl,rfl⟩
theorem CInner_spec (N:Int) (A:Option Addr) (l:List Arc) (cap:Nat) (Ab:Option Addr) (bs:List Int) (cb:Nat) (Ac:Option Addr) (R:List Row) (cc:Nat) (q c:Int) (w:World) (hr:Ro (Fr w []) w A (l.flatMap bZ)) (hl:l.length≤9223372036854775807) (hN:I64 N) (hok:∀ x∈l,eK x) (hn:NestRo (Fr w []) w Ab bs Ac R):
    Meets Tryz.prog 119 [.agg #[.int .i64 N,.slice A l.length cap],.agg #[.slice Ab bs.length cb,.slice Ac R.length cc],.int .i64 q,.int .i64 c] w [] (fun u own' =>∃ (M:List Int) (A' :Option Addr) (c2:Nat) (m' :Seg),u= .tuple #[.slice A' M.length M.length,.int .i64 (clE N l bs (bG R) q c)]∧own' =[m']∧Own 3 1 (.slice A' M.length c2) M.length (bF M) m'∧(clE N l bs (bG R) q c≠0→M=[])∧(clE N l bs (bG R) q c=0→M=gF (inP ((bG R).getD (q.toNat - 1) []) c) l)):=by
 refine bE Tryz.func119 rfl Tryz.ntmps119 rfl Owns.nil<|aG fun kh1=>f_S (cT rfl rfl fun b4=>?_)
 refine f_S (cT rfl rfl fun b5=>?_);refine f_S (cT rfl rfl fun b7=>?_);refine aB 2 rfl<|aD kh1<|aG fun kh2=>f_Q (aO (vs:=[_,_]) Tryz.isAgg24 Tryz.sizeOf24 rfl rfl ⟨(rdA rfl),(rdA rfl),trivial⟩)<|f_Q (aO (vs:=[_,_]) Tryz.isAgg34 Tryz.sizeOf34 rfl rfl ⟨(rdA rfl),(rdA rfl),trivial⟩)<|aB 1 rfl<|cX Tryz.isAgg3 rfl (rdA rfl) ?_
 refine f_S (aV Tryz.call21 rfl (fun w_ F=>q9 N A l cap Ab bs cb Ac R cc q c w_ (hr.up0 F) hl hN hok (hn.up0 F)) ?_);rintro _ _ ⟨r,rfl,rfl,ai,Z⟩;dsimp only [aK,aJ];refine aB 3 rfl<|f_S (cQ Tryz.zeroValue25 rfl fun b10=>?_)
 refine f_Z (bU Tryz.sizeOf25 rfl rfl rfl rfl cF [fG r] rfl ?_);refine aB 1 rfl<|aD kh2<|aS fun kh3=>aG fun kh4=>aB 2 rfl<|aD kh4<|aX rfl (fun c21=>?_) (fun c21=>?_)
 ·refine aG fun ac=>aB 3 rfl<|aD ac<|aY<|cV ?_
  have e:clE N l bs (bG R) q c=clE N l bs (bG R) q c:=rfl
  exact cZ [[]] Tryz.results119 rfl rfl (show Fly.Sub _ [[]] from aC) ⟨[],none,0,[],by rw [e];rfl,rfl,Own.nil _ _,fun _=>rfl,fun h=>absurd (e.symm.trans h) (by simpa using c21)⟩
 ·have U:clE N l bs (bG R) q c=0:=by simpa using c21
  obtain ⟨n,k,j,am,O,aj,ah,al,an⟩:=j7 U
  have ae:=O.len
  rw [d5] at ae;have ad:=O.many
  obtain ⟨ag,ak,hlen,Y⟩:=bS O.g
  have X:=Z U
  have J:=qD X aA
  rw [show q.toNat - 1=k by omega] at J;have aa:=O.rowlen (k:=k) aA
  rw [J] at aa;have ab:=hn.rows r (List.mem_of_getElem? X)
  refine bV kh3<|aG fun kh6=>f_Q (aO (vs:=[_,_]) Tryz.isAgg24 Tryz.sizeOf24 rfl rfl ⟨(rdA rfl),(rdA rfl),trivial⟩)<|f_Q (kT rfl rfl) ?_
  refine f_S (aV Tryz.call154 rfl (fun w_ F=>chosen_spec N A l cap (inP r.2.1 c) 155 [.pointer (some ⟨b10,0,none⟩),.pointer (some ⟨b7,0,none⟩)] w_ (hr.up0 F) hlen Tryz.call155 (fun w' hs i hi=>Inner1_spec l[i] b10 b7 r.1 r.2.1 r.2.2 c w' (oQ F hs) (oQ F hs) (Ro.held (ab.1.up0 F) hs) (by have:=Y i hi;omega) (by have:=Y i hi;omega))) ?_);rintro _ _ ⟨Ao,co,mo,rfl,rfl,hO⟩;dsimp only [aK,aJ];refine aB 2 rfl<|aD kh6<|aY ?_
  have e:=U
  exact cZ [mo] Tryz.results119 rfl rfl aC ⟨_,Ao,co,mo,by rw [e],rfl,hO,fun h=>absurd e h,fun _=>by rw [show q.toNat - 1=k by omega,J]⟩
theorem Between1_spec (a:Arc) (b1 b2 b3:Nat) (B:Option Addr) (L:List Int) (cb:Nat) (B2:Option Addr) (L2:List Int) (ao:Nat) (c:Int) (w:World) (h1:Ro (Fr w []) w (some ⟨b1,0,none⟩) [.slice B L.length cb]) (h2:Ro (Fr w []) w (some ⟨b2,0,none⟩) [.int .i64 c]) (h3:Ro (Fr w []) w (some ⟨b3,0,none⟩) [.slice B2 L2.length ao]) (hL:Ro (Fr w []) w B (bF L)) (ai:Ro (Fr w []) w B2 (bF L2)) (av:L2.length=L.length) (hs:0≤a.src∧a.src<(L.length:Int)) (hd:0≤a.dst∧a.dst<(L.length:Int)):
    Meets Tryz.prog 158 ([.agg (bZ a).toArray]++[.pointer (some ⟨b1,0,none⟩),.pointer (some ⟨b2,0,none⟩),.pointer (some ⟨b3,0,none⟩)]) w [] (fun u m=>u= .bool (btP L L2 c a)∧m=[]):=by
 have U:a.src.toNat<L.length:=aA
 have O:a.dst.toNat<L.length:=aA
 have J:a.src.toNat<L2.length:=aA
 have F:a.dst.toNat<L2.length:=aA
 obtain ⟨am,aj,ar,Z,ad⟩:=h1 aN
 obtain ⟨rfl,rfl⟩:b1=am∧0=aj:=by cases ar;exact ⟨rfl,rfl⟩
 obtain ⟨ak,an,aq,hS2,hc2⟩:=h2 aN
 obtain ⟨rfl,rfl⟩:b2=ak∧0=an:=by cases aq;exact ⟨rfl,rfl⟩
 obtain ⟨ap,ah,al,ae,ab⟩:=h3 aN
 obtain ⟨rfl,rfl⟩:b3=ap∧0=ah:=by cases al;exact ⟨rfl,rfl⟩
 obtain ⟨br,or,rfl,aa,ag⟩:=hL (fun e=>by have:=a7 L;rw [e] at this;simp at this;omega)
 obtain ⟨au,ac,rfl,X,Y⟩:=ai (fun e=>by have:=a7 L2;rw [e] at this;simp at this;omega)
 refine bE Tryz.func158 rfl Tryz.ntmps158 rfl Owns.nil<|aG fun kh1=>f_S (cT rfl rfl fun b4=>?_)
 refine aB 1 rfl<|aD kh1<|aS fun kh2=>gG 29 rfl aW<|dB (aH Tryz.isAgg25 rfl (rdS Z (ad 0 _ rfl)))<|dB (aT fY rfl)<|gC Tryz.isAgg3 rfl (rdA rfl)<|dB (aL bX rfl rfl (or+a.src.toNat))<|dB (aH Tryz.isAgg3 rfl (d3 (enc:=(.int .i64 ·)) aa ag U))<|dB (aH Tryz.isAgg3 rfl (rdS hS2 (hc2 0 _ rfl))) ?_
 refine dI 2 rfl<|f_splitS 13 rfl (fun g13=>?_) (fun g13=>?_)
 ·refine dQ rfl rfl rfl rfl rfl (aH Tryz.isAgg25 rfl (rdS Z (ad 0 _ rfl)))<|dQ rfl rfl rfl rfl rfl (aT fO rfl)<|dQ rfl rfl rfl rfl rfl (aH Tryz.isAgg3 rfl (rdA rfl))<|dQ rfl rfl rfl rfl rfl (aL bX rfl rfl (or+a.dst.toNat))<|dQ rfl rfl rfl rfl rfl (aH Tryz.isAgg3 rfl (d3 (enc:=(.int .i64 ·)) aa ag O))<|dQ rfl rfl rfl rfl rfl (aH Tryz.isAgg3 rfl (rdS hS2 (hc2 0 _ rfl)))<|dI 3 rfl<|f_splitS 22 rfl (fun g22=>?_) (fun g22=>?_)
  ·refine dQ rfl rfl rfl rfl rfl (aH Tryz.isAgg25 rfl (rdS ae (ab 0 _ rfl)))<|dQ rfl rfl rfl rfl rfl (aT fY rfl)<|dQ rfl rfl rfl rfl rfl (aH Tryz.isAgg3 rfl (rdA rfl))<|dQ rfl rfl rfl rfl rfl (aL bX rfl rfl (ac+a.src.toNat))<|dQ rfl rfl rfl rfl rfl (aH Tryz.isAgg3 rfl (d3 (enc:=(.int .i64 ·)) X Y J))<|dQ rfl rfl rfl rfl rfl (aH Tryz.isAgg25 rfl (rdS ae (ab 0 _ rfl)))<|dQ rfl rfl rfl rfl rfl (aT fO rfl)<|dQ rfl rfl rfl rfl rfl (aH Tryz.isAgg3 rfl (rdA rfl))<|dQ rfl rfl rfl rfl rfl (aL bX rfl rfl (ac+a.dst.toNat))<|dQ rfl rfl rfl rfl rfl (aH Tryz.isAgg3 rfl (d3 (enc:=(.int .i64 ·)) X Y F)) ?_;refine dI 2 rfl<|eI (iX ?_)
   refine aB 1 rfl<|aD kh2<|aY ?_
   exact bJ [] Tryz.results158 rfl aP ⟨by unfold btP inP unP;rw [eM U,eM O,eM J,eM F,decide_eq_true g13,decide_eq_true g22];rfl,rfl⟩
  ·refine dI 12 rfl<|eI (iX ?_)
   refine aB 1 rfl<|aD kh2<|aY ?_
   exact bJ [] Tryz.results158 rfl aP ⟨by unfold btP inP unP;rw [eM U,eM O,eM J,eM F,decide_eq_true g13,decide_eq_false g22];rfl,rfl⟩
 ·refine dI 21 rfl<|eI (iX ?_)
  refine aB 1 rfl<|aD kh2<|aY ?_
  exact bJ [] Tryz.results158 rfl aP ⟨by unfold btP inP unP;rw [eM U,eM O,eM J,eM F,decide_eq_false g13];rfl,rfl⟩
theorem CBetween_spec (N:Int) (A:Option Addr) (l:List Arc) (cap:Nat) (Ab:Option Addr) (bs:List Int) (cb:Nat) (Ac:Option Addr) (R:List Row) (cc:Nat) (q c:Int) (w:World) (hr:Ro (Fr w []) w A (l.flatMap bZ)) (hl:l.length≤9223372036854775807) (hN:I64 N) (hok:∀ x∈l,eK x) (hn:NestRo (Fr w []) w Ab bs Ac R):
    Meets Tryz.prog 122 [.agg #[.int .i64 N,.slice A l.length cap],.agg #[.slice Ab bs.length cb,.slice Ac R.length cc],.int .i64 q,.int .i64 c] w [] (fun u own' =>∃ (M:List Int) (A' :Option Addr) (c2:Nat) (m' :Seg),u= .tuple #[.slice A' M.length M.length,.int .i64 (bwE N l bs (bG R) q c)]∧own' =[m']∧Own 3 1 (.slice A' M.length c2) M.length (bF M) m'∧(bwE N l bs (bG R) q c≠0→M=[])∧(bwE N l bs (bG R) q c=0→M=gF (btP ((bG R).getD (q.toNat - 1) []) ((bG R).getD (q.toNat - 2) []) c) l)):=by
 refine bE Tryz.func122 rfl Tryz.ntmps122 rfl Owns.nil<|aG fun kh1=>f_S (cT rfl rfl fun b4=>?_)
 refine f_S (cT rfl rfl fun b5=>?_);refine f_S (cT rfl rfl fun b7=>?_);refine aB 2 rfl<|aD kh1<|aG fun kh2=>f_Q (aO (vs:=[_,_]) Tryz.isAgg24 Tryz.sizeOf24 rfl rfl ⟨(rdA rfl),(rdA rfl),trivial⟩)<|f_Q (aO (vs:=[_,_]) Tryz.isAgg34 Tryz.sizeOf34 rfl rfl ⟨(rdA rfl),(rdA rfl),trivial⟩)<|aB 1 rfl<|cX Tryz.isAgg3 rfl (rdA rfl) ?_
 refine f_S (aV Tryz.call21 rfl (fun w_ J=>q9 N A l cap Ab bs cb Ac R cc q c w_ (hr.up0 J) hl hN hok (hn.up0 J)) ?_);rintro _ _ ⟨r,rfl,rfl,ar,ae⟩;dsimp only [aK,aJ];refine aB 3 rfl<|f_S (cQ Tryz.zeroValue25 rfl fun b10=>?_)
 refine f_Z (bU Tryz.sizeOf25 rfl rfl rfl rfl cF [fG r] rfl ?_);refine aB 1 rfl<|aD kh2<|aS fun kh3=>aG fun kh4=>aB 2 rfl<|aD kh4<|aX rfl (fun c22=>?_) (fun c22=>?_)
 ·refine aG fun aj=>aB 3 rfl<|aD aj<|aY<|cV ?_
  have e:bwE N l bs (bG R) q c=clE N l bs (bG R) q c:=by unfold bwE;rw [if_pos (by simpa using c22)]
  exact cZ [[]] Tryz.results122 rfl rfl (show Fly.Sub _ [[]] from aC) ⟨[],none,0,[],by rw [e];rfl,rfl,Own.nil _ _,fun _=>rfl,fun h=>absurd (e.symm.trans h) (by simpa using c22)⟩
 ·have Y:clE N l bs (bG R) q c=0:=by simpa using c22
  obtain ⟨n,k,j,ay,U,au,aq,ax,az⟩:=j7 Y
  have am:=U.len
  rw [d5] at am;have al:=U.many
  obtain ⟨ap,av,hlen,ad⟩:=bS U.g
  have aa:=ae Y
  have X:=qD aa aA
  rw [show q.toNat - 1=k by omega] at X;have ag:=U.rowlen (k:=k) aA
  rw [X] at ag;have ah:=hn.rows r (List.mem_of_getElem? aa)
  refine bV kh3<|aS fun kh6=>aG fun kh7=>aB 2 rfl<|aD kh7<|aX rfl (fun c25=>?_) (fun c25=>?_)
  ·refine aG fun ao=>aB 2 rfl<|aD ao<|aY<|cV ?_
   have e:bwE N l bs (bG R) q c=111:=by unfold bwE;rw [if_neg (by rw [Y];simp),if_pos aA]
   exact cZ [[]] Tryz.results122 rfl rfl (show Fly.Sub _ [[]] from aC) ⟨[],none,0,[],by rw [e];rfl,rfl,Own.nil _ _,fun _=>rfl,fun h=>absurd (e.symm.trans h) (by decide)⟩
  ·obtain ⟨O,aw⟩:∃ O,k=O+1:=⟨k - 1,aA⟩
   have F:O<R.length:=aA
   have Z:=hn.rows _ (List.getElem_mem F)
   have ac:=iF F
   have ab:=U.rowlen (k:=O) aA
   rw [ac] at ab;obtain ⟨b0,o0,ai,an,ak⟩:=hn.c (fX F)
   refine bV kh6<|aG fun kh9=>cL jD rfl<|f_Q (aH Tryz.isAgg32 rfl (v:= .slice (some ⟨b0,o0,none⟩) R.length cc) (rdA (by rw [← ai];rfl))) ?_
   refine aB 1 rfl<|f_Q (kM rfl rfl _ (Eq.trans (d7 aA) (show _=(O:Int) by omega))) ?_
   refine f_Q (aL gL rfl rfl (o0+O))<|f_Q (aH Tryz.isAgg25 rfl (d3 (enc:=fG) an ak F))<|f_S (cQ Tryz.zeroValue25 rfl fun b12=>?_)
   refine f_Z (bU Tryz.sizeOf25 rfl rfl rfl rfl cF [fG (R[O]'F)] rfl ?_);refine aD kh9 <| aG fun kh10 => f_Q (aO (vs := [_, _]) Tryz.isAgg24 Tryz.sizeOf24 rfl rfl ⟨(rdA rfl), (rdA rfl), trivial⟩) <| f_Q (kT rfl rfl) ?_
   refine f_S (aV Tryz.call154 rfl (fun w_ J => chosen_spec N A l cap (btP r.2.1 (R[O]'F).2.1 c) 158 [.pointer (some ⟨b10, 0, none⟩), .pointer (some ⟨b7, 0, none⟩), .pointer (some ⟨b12, 0, none⟩)] w_ (hr.up0 J) hlen Tryz.call158 (fun w' hs i hi => Between1_spec l[i] b10 b7 b12 r.1 r.2.1 r.2.2 (R[O]'F).1 (R[O]'F).2.1 (R[O]'F).2.2 c w' (oQ J hs) (oQ J hs) (oQ J hs) (Ro.held (ah.1.up0 J) hs) (Ro.held (Z.1.up0 J) hs) aA (by have := ad i hi; omega) (by have := ad i hi; omega))) ?_);rintro _ _ ⟨Ao, co, mo, rfl, rfl, hO⟩;dsimp only [aK, aJ];refine aB 2 rfl <| aD kh10 <| aY ?_
   have e:bwE N l bs (bG R) q c=0:=by unfold bwE;rw [if_neg (by rw [Y];simp),if_neg aA]
   exact cZ [mo] Tryz.results122 rfl rfl aC ⟨_,Ao,co,mo,by rw [e],rfl,hO,fun h=>absurd e h,fun _=>by rw [show q.toNat - 1=k by omega,show q.toNat - 2=O by omega,X,ac]⟩
def bdOf (L:List Int) (c:Int) (a:Arc):List Int:=if L.getD a.src.toNat 0=L.getD a.dst.toNat 0 then [] else (if L.getD a.src.toNat 0=c then [a.src] else [])++(if L.getD a.dst.toNat 0=c then [a.dst] else [])
def bdR (L:List Int) (c:Int) (l:List Arc):List Int:=l.flatMap (bdOf L c)
def bdL (L:List Int) (c:Int) (l:List Arc):List Int:=cpt (gT (bdR L c l))
theorem bdOf_len (L:List Int) (c:Int) (a:Arc):(bdOf L c a).length≤2:=by
 unfold bdOf
 by_cases h:L.getD a.src.toNat 0=L.getD a.dst.toNat 0
 ·rw [if_pos h];simp
 ·rw [if_neg h,List.length_append]
  have e (p:Prop) [Decidable p] (x:Int):(if p then [x] else ([]:List Int)).length≤1:=by split<;>simp
  have:=e (L.getD a.src.toNat 0=c) a.src
  have:=e (L.getD a.dst.toNat 0=c) a.dst
  omega
theorem bdR_next {L:List Int} {c:Int} {l:List Arc} {k:Nat} (hk:k<l.length):bdR L c (l.take (k+1))=bdR L c (l.take k)++bdOf L c l[k]:=by
 unfold bdR;rw [List.take_succ_eq_append_getElem hk,List.flatMap_append];simp
theorem bdR_len (L:List Int) (c:Int):∀ l:List Arc,(bdR L c l).length≤2*l.length
 |[]=>by simp [bdR]
 |a::l=>by
  have:=bdR_len L c l
  have:=bdOf_len L c a
  unfold bdR at*
  rw [List.flatMap_cons,List.length_append,List.length_cons];omega
theorem jR {L:List Int} {c:Int} {a:Arc} {v:Int}:v∈bdOf L c a↔L.getD a.src.toNat 0≠L.getD a.dst.toNat 0∧((L.getD a.src.toNat 0=c∧v=a.src)∨(L.getD a.dst.toNat 0=c∧v=a.dst)):=by
 unfold bdOf
 split
 ·rename_i h;exact ⟨fun h2=>absurd h2 aN,fun h2=>absurd h h2.1⟩
 ·rename_i h
  rw [List.mem_append];constructor
  ·rintro (h1|h1)
   ·split at h1
    ·rename_i h2;exact ⟨h,.inl ⟨h2,by simpa using h1⟩⟩
    ·simp at h1
   ·split at h1
    ·rename_i h2;exact ⟨h,.inr ⟨h2,by simpa using h1⟩⟩
    ·simp at h1
  ·rintro ⟨_,⟨h2,rfl⟩|⟨h2,rfl⟩⟩
   ·rw [if_pos h2];exact .inl aN
   ·rw [if_pos h2];exact .inr aN
theorem k7 {L:List Int} {c:Int} {l:List Arc} {v:Int}:v∈bdL L c l↔∃ a∈l,v∈bdOf L c a:=by
 unfold bdL;rw [oH,(p8 _).mem_iff];unfold bdR;rw [List.mem_flatMap]
theorem rise_lt {l : List Int} (h : l.Pairwise (· < ·)) {i j : Nat} (F : i < j) (hj : j < l.length) : l[i]'aA < l[j] := List.pairwise_iff_getElem.1 h i j aA hj F
theorem rise_mem {l:List Int} (h:l.Pairwise (·<·)) {x:Int} {i:Nat} (hi:i≤l.length) (h1:∀ j (hj:j<l.length),j<i→l[j]<x) (h2:∀ j (hj:j<l.length),i≤j→x≤l[j]):x∈l↔∃ hi:i<l.length,l[i]=x:=by
 constructor
 ·intro hm
  obtain ⟨j,hj,rfl⟩:=List.mem_iff_getElem.1 hm
  rcases Nat.lt_trichotomy j i with e|e|e
  ·have:=h1 j hj e;omega
  ·subst e;exact ⟨hj,rfl⟩
  ·have:=h2 i aA (Nat.le_refl _)
   have:=rise_lt h e hj
   omega
 ·rintro ⟨hi,rfl⟩;exact List.getElem_mem hi
theorem le_rise {l : List Int} (h : l.Pairwise (· < ·)) {i j : Nat} (F : i ≤ j) (hj : j < l.length) : l[i]'aA ≤ l[j] := by
 rcases Nat.lt_or_ge i j with e|e
 ·have:=rise_lt h e hj;omega
 ·obtain rfl:i=j:=aA
  exact Int.le_refl _
theorem shr1 {y:Nat} (h:y<18446744073709551616):((y:Nat):Int).fdiv (2 ^ (min ((1:Int).toNat) IntKind.u64.bits))=((y / 2:Nat):Int):=by
 show (y:Int).fdiv 2=_
 rw [Int.fdiv_eq_ediv_of_nonneg _ (by decide)];omega
theorem cmpNaN_spec (x:Int) (w:World):Meets Tryz.prog 148 [.int .i64 x] w [] (fun u m=>u= .bool false∧m=[]):=by
 refine bE Tryz.func148 rfl Tryz.ntmps148 rfl Owns.nil<|aG fun kh1=>aB 1 rfl<|aD kh1<|aG fun kh2=>aB 4 rfl<|aD kh2<|aY ?_
 exact bJ [] Tryz.results148 rfl aP ⟨aN,rfl⟩
theorem slNaN_spec (x:Int) (w:World):Meets Tryz.prog 128 [.int .i64 x] w [] (fun u m=>u= .bool false∧m=[]):=by
 refine bE Tryz.func128 rfl Tryz.ntmps128 rfl Owns.nil<|aG fun kh1=>aB 1 rfl<|aD kh1<|aG fun kh2=>aB 4 rfl<|aD kh2<|aY ?_
 exact bJ [] Tryz.results128 rfl aP ⟨aN,rfl⟩
theorem cmpLess_spec (x y:Int) (w:World):Meets Tryz.prog 102 [.int .i64 x,.int .i64 y] w [] (fun u m=>u= .bool (decide (x<y))∧m=[]):=by
 refine bE Tryz.func102 rfl Tryz.ntmps102 rfl Owns.nil<|aG fun kh1=>aB 1 rfl<|aD kh1<|aG fun kh2=>aB 1 rfl ?_
 refine f_S (aV Tryz.call148 rfl (fun F J=>cmpNaN_spec x F) ?_);rintro _ _ ⟨rfl,rfl⟩;dsimp only [aK,aJ];refine aB 11 rfl<|aD kh2<|aY ?_
 exact bJ [] Tryz.results102 rfl aP ⟨rfl,rfl⟩
theorem BSearch_spec (A:Option Addr) (l:List Int) (cap:Nat) (x:Int) (w:World) (hr:Ro (Fr w []) w A (bF l)) (hm:l.length≤1000000) (hs:l.Pairwise (·<·)):
    Meets Tryz.prog 77 [.slice A l.length cap,.int .i64 x] w [] (fun u m=>∃ i:Nat,u= .tuple #[.int .i64 (i:Int),.bool (decide (x∈l))]∧m=[]∧(x∈l→l[i]? =some x)):=by
 refine bE Tryz.func77 rfl Tryz.ntmps77 rfl Owns.nil<|aG fun kh1=>aB 2 rfl<|aD kh1<|aG fun kh2=>aB 1 rfl<|dU bX rfl<|aB 1 rfl<|aD kh2<|aG fun kh3=>?_
 refine aB 3 rfl<|aD kh3<|aS fun kh4=>aR ?_
 refine dA (α:=Nat×Nat) [0,1,6] (fun ⟨i,j⟩=>[(7,.int .i64 (i:Int)),(8,.int .i64 (j:Int))]) (fun ⟨i,j⟩=>[]) (fun ⟨i,j⟩=>i≤j∧j≤l.length∧(∀ k (hk:k<l.length),k<i→l[k]<x)∧(∀ k (hk:k<l.length),j≤k→x≤l[k])) (fun ⟨i,j⟩=>j - i) (0,l.length) ?_ ?_ ?_ ?_
 ·exact aF
 ·exact aC
 ·exact ⟨Nat.zero_le _,Nat.le_refl _,fun k _ h=>aA,fun k hk h=>aA⟩
 ·rintro ⟨i,j⟩ ⟨Z,hjl,hlo,J⟩;refine aS fun U=>aG fun kh6=>aB 3 rfl<|aD kh6<|aX rfl (fun c15=>?_) (fun c15=>?_)
  ·have hh:(i+j) / 2<l.length:=aA
   obtain ⟨b,o,rfl,O,hc⟩:=hr (fX hh)
   refine bV U<|aR<|aG fun kh7=>aB 2 rfl<|f_Q (a8 rfl rfl)<|f_Q (g5 Tryz.runUnderlying3 Tryz.runUnderlying118 rfl _ (show _=((i+j:Nat):Int) from by rw [iQ aA];omega)) ?_
   refine f_Q (o_shr rfl rfl (by decide) (((i+j) / 2:Nat):Int) (shr1 aA)) ?_;refine f_Q (g5 Tryz.runUnderlying118 Tryz.runUnderlying3 rfl _ (d7 aA)) ?_;refine aB 1 rfl<|aD kh7<|aG fun kh8=>aB 2 rfl<|f_Q (aL bX rfl rfl (o+(i+j) / 2))<|f_Q (aH Tryz.isAgg3 rfl (d3 (enc:=(.int .i64 ·)) O hc hh))<|aB 1 rfl ?_
   refine f_S (aV Tryz.call102 rfl (fun X Y=>cmpLess_spec l[(i+j) / 2] x X) ?_);rintro _ _ ⟨rfl,rfl⟩;dsimp only [aK,aJ];refine aD kh8<|eO rfl (fun c27=>?_) (fun c27=>?_)
   ·have c27:l[(i+j) / 2]<x:=by simpa using c27
    refine aI<|aB 1 rfl<|f_Q (a8 rfl rfl)<|aB 1 rfl<|aZ<|dF ?_
    refine cS (a6 ((i+j) / 2+1,j) (by first|omega|(dsimp only;omega)|(simp;omega)) ⟨aA,hjl,fun k hk h=>Int.lt_of_le_of_lt (le_rise hs (show k≤(i+j) / 2 by omega) hh) c27,J⟩ ?_ ?_ ?_)
    ·exact aF
    ·exact aF
    ·exact aC
   ·have c27:¬ l[(i+j) / 2]<x:=by simpa using c27
    refine aI<|aB 2 rfl<|aZ<|dF ?_
    refine cS (a6 (i,(i+j) / 2) (by first|omega|(dsimp only;omega)|(simp;omega)) ⟨aA,aA,hlo,fun k hk h=>Int.le_trans aA (le_rise hs h hk)⟩ ?_ ?_ ?_)
    ·exact aF
    ·exact aF
    ·exact aC
  ·obtain rfl:i=j:=aA
   have F:=rise_mem hs hjl hlo J
   refine cN<|cO<|cO<|eC<|bO kh4<|aG fun kh9=>aB 5 rfl<|d8 35 rfl (fun g35=>?_) (fun g35=>?_)
   ·have hi:i<l.length:=aA
    obtain ⟨b,o,rfl,O,hc⟩:=hr (fX hi)
    refine aB 2 rfl<|eA rfl rfl (aL bX rfl rfl (o+i))<|eA rfl rfl (aH Tryz.isAgg3 rfl (d3 (enc:=(.int .i64 ·)) O hc hi))<|aB 3 rfl<|d8 42 rfl (fun g42=>?_) (fun g42=>?_)
    ·refine aB 6 rfl<|k5 rfl rfl rfl rfl rfl<|k5 rfl rfl rfl rfl rfl<|aB 5 rfl<|aD kh9<|aY ?_
     exact cZ [] Tryz.results77 rfl rfl aP ⟨i,by rw [decide_eq_true (F.2 ⟨hi,g42⟩)],rfl,fun _=>by rw [List.getElem?_eq_getElem hi,g42]⟩
    ·refine aB 2 rfl<|eA rfl rfl (aL bX rfl rfl (o+i))<|eA rfl rfl (aH Tryz.isAgg3 rfl (d3 (enc:=(.int .i64 ·)) O hc hi)) ?_
     refine jY rfl rfl rfl rfl rfl (aV Tryz.call128 rfl (fun X Y=>slNaN_spec l[i] X) ?_);rintro _ _ ⟨rfl,rfl⟩;dsimp only [aK,aJ];refine aB 8 rfl<|aD kh9<|aY ?_
     exact cZ [] Tryz.results77 rfl rfl aP ⟨i,by rw [decide_eq_false (fun h=>g42 (F.1 h).2)],rfl,fun h=>absurd (F.1 h).2 g42⟩
   ·refine aB 7 rfl<|k5 rfl rfl rfl rfl rfl<|k5 rfl rfl rfl rfl rfl<|k5 rfl rfl rfl rfl rfl<|k5 rfl rfl rfl rfl rfl<|k5 rfl rfl rfl rfl rfl<|k5 rfl rfl rfl rfl rfl<|k5 rfl rfl rfl rfl rfl<|k5 rfl rfl rfl rfl rfl<|k5 rfl rfl rfl rfl rfl ?_
    refine aB 4 rfl<|aD kh9<|aY ?_
    exact cZ [] Tryz.results77 rfl rfl aP ⟨i,by rw [decide_eq_false (fun h=>g35 (by have:=(F.1 h).1;omega))],rfl,fun h=>absurd (F.1 h).1 aA⟩
theorem jS (N:Int) (A:Option Addr) (l:List Arc) (cap:Nat) (Ab:Option Addr) (bs:List Int) (cb:Nat) (Ac:Option Addr) (R:List Row) (cc:Nat) (q c:Int) (w:World) (hr:Ro (Fr w []) w A (l.flatMap bZ)) (hl:l.length≤9223372036854775807) (hN:I64 N) (hok:∀ x∈l,eK x) (hn:NestRo (Fr w []) w Ab bs Ac R):
    Meets Tryz.prog 9 [.agg #[.int .i64 N,.slice A l.length cap],.agg #[.slice Ab bs.length cb,.slice Ac R.length cc],.int .i64 q,.int .i64 c] w [] (fun u own' =>∃ (M:List Int) (A' :Option Addr) (c2:Nat) (m' :Seg),u= .tuple #[.slice A' M.length M.length,.int .i64 (clE N l bs (bG R) q c)]∧own' =[m']∧Own 3 1 (.slice A' M.length c2) M.length (bF M) m'∧(clE N l bs (bG R) q c≠0→M=[])∧(clE N l bs (bG R) q c=0→M=bdL ((bG R).getD (q.toNat - 1) []) c l)):=by
 refine bE Tryz.func9 rfl Tryz.ntmps9 rfl Owns.nil<|aG fun kh1=>f_S (cT rfl rfl fun b4=>?_)
 refine f_S (cT rfl rfl fun b5=>?_);refine aB 2 rfl<|aD kh1<|aG fun kh2=>f_Q (aO (vs:=[_,_]) Tryz.isAgg24 Tryz.sizeOf24 rfl rfl ⟨(rdA rfl),(rdA rfl),trivial⟩)<|f_Q (aO (vs:=[_,_]) Tryz.isAgg34 Tryz.sizeOf34 rfl rfl ⟨(rdA rfl),(rdA rfl),trivial⟩)<|aB 2 rfl ?_
 refine f_S (aV Tryz.call21 rfl (fun w_ hp_=>q9 N A l cap Ab bs cb Ac R cc q c w_ (hr.up0 hp_) hl hN hok (hn.up0 hp_)) ?_);rintro _ _ ⟨⟨Ar,L,cr⟩,rfl,rfl,bg,a2⟩;dsimp only [aK,aJ];refine aB 5 rfl<|aD kh2<|aS fun kh3=>aG fun kh4=>aB 2 rfl<|aD kh4<|aX rfl (fun c24=>?_) (fun c24=>?_)
 ·refine aG fun ay=>aB 3 rfl<|aD ay<|aY<|cV ?_
  have e:clE N l bs (bG R) q c=clE N l bs (bG R) q c:=rfl
  exact cZ [[]] Tryz.results9 rfl rfl (show Fly.Sub _ [[]] from aC) ⟨[],none,0,[],by rw [e];rfl,rfl,Own.nil _ _,fun _=>rfl,fun h=>absurd (e.symm.trans h) (by simpa using c24)⟩
 ·have aj:clE N l bs (bG R) q c=0:=by simpa using c24
  obtain ⟨n,k,j,bu,ad,bh,bq,bj,bk⟩:=j7 aj
  have az:=ad.len
  rw [d5] at az;have bc:=ad.many
  obtain ⟨bp,bt,hlen,aw⟩:=bS ad.g
  have am:=a2 aj
  have aa:_=L:=qD am aA
  rw [show q.toNat - 1=k by omega] at aa;have au:=ad.rowlen (k:=k) aA
  rw [aa] at au;have aq:=hn.rows (Ar,L,cr) (List.mem_of_getElem? am)
  dsimp only at aq;refine f_reC 10 rfl (v:= .slice Ar L.length cr) rfl<|bV kh3<|aG fun kh6=>aB 1 rfl<|aD kh6<|aS fun kh7=>aG fun ax=>cL fT rfl<|cX Tryz.isAgg22 rfl (rdA rfl)<|dU jB rfl ?_
  refine aB 1 rfl<|aD ax<|aR ?_
  refine dA (α:=Nat×Value×Seg) [3,10,27,28] (fun ⟨i,ov,X⟩=>[(29,.int .i64 (i:Int)),(12,ov)]) (fun ⟨i,ov,X⟩=>[X]) (fun ⟨i,ov,X⟩=>i≤l.length∧Own 3 1 ov (bdR L c (l.take i)).length (bF (bdR L c (l.take i))) X) (fun ⟨i,ov,X⟩=>l.length - i) (0,.slice none 0 0,[]) ?_ ?_ ?_ ?_
  ·exact aF
  ·exact aC
  ·exact ⟨Nat.zero_le _,Own.nil _ _⟩
  ·rintro ⟨i,ov,X⟩ ⟨ba,hO⟩;have ai:=bdR_len L c (l.take i)
   rw [List.length_take,Nat.min_eq_left ba] at ai;obtain ⟨Ao,co,rfl,ap⟩:=hO.val
   refine aG fun kh9=>aB 1 rfl<|aD kh9<|aS fun kh10=>aX rfl (fun a1=>?_) (fun a1=>?_)
   ·have hi:i<l.length:=aA
    obtain ⟨bl,off,rfl,hS,hc⟩:=hr (eX bZ dD aA hi)
    have bf:=aw i hi
    have ac:l[i].src.toNat<L.length:=aA
    have Y:l[i].dst.toNat<L.length:=aA
    obtain ⟨br,or,rfl,O,ab⟩:=aq.1 (fun e=>by have:=a7 L;rw [e] at this;simp at this;omega)
    have F:=bdR_next (L:=L) (c:=c) hi
    refine bV kh10<|aS fun kh11=>aR<|aG fun kh12=>f_Q (aL jB rfl rfl (off+i*3))<|f_Q (aO (vs:=bZ l[i]) Tryz.isAgg69 Tryz.sizeOf69 rfl rfl (f8 dD hS hc hi))<|f_S (cQ Tryz.zeroValue69 rfl fun b14=>?_)
    refine f_Z (bP Tryz.sizeOf69 rfl rfl rfl rfl cF (bZ l[i]) rfl ?_);refine aD kh12<|aS fun kh13=>aS fun kh14=>gV rfl aW<|dI 1 rfl<|dB (aT fY rfl)<|gC Tryz.isAgg3 rfl (rdA rfl)<|dB (aL bX rfl rfl (or+l[i].src.toNat))<|dB (aH Tryz.isAgg3 rfl (d3 (enc:=(.int .i64 ·)) O ab ac))<|dI 1 rfl ?_
    refine dB (aT fO rfl)<|gC Tryz.isAgg3 rfl (rdA rfl)<|dB (aL bX rfl rfl (or+l[i].dst.toNat))<|dB (aH Tryz.isAgg3 rfl (d3 (enc:=(.int .i64 ·)) O ab Y))<|dI 1 rfl<|eI<|bO kh14<|aX rfl (fun c43=>?_) (fun c43=>?_)
    ·have hb:bdOf L c l[i]=[]:=by unfold bdOf;rw [eM ac,eM Y,if_pos c43]
     rw [hb,List.append_nil] at F;refine cN<|cO<|eC<|bO kh11<|aI<|f_Q (a8 rfl rfl)<|aB 1 rfl<|aZ ?_
     refine cS (a6 (i+1,.slice Ao (bdR L c (l.take i)).length co,X) (by first|omega|(dsimp only;omega)|(simp;omega)) ⟨aA,by rw [F];exact hO⟩ ?_ ?_ ?_)
     ·exact aF
     ·exact aF
     ·exact aC
    ·have hb:bdOf L c l[i]=(if L[l[i].src.toNat]=c then [l[i].src] else [])++(if L[l[i].dst.toNat]=c then [l[i].dst] else []):=by unfold bdOf;rw [eM ac,eM Y,if_neg c43]
     refine bV kh13<|aS fun kh15=>aG fun kh16=>aB 1 rfl<|cL fY rfl<|cX Tryz.isAgg3 rfl (rdA rfl)<|f_Q (aL bX rfl rfl (or+l[i].src.toNat))<|f_Q (aH Tryz.isAgg3 rfl (d3 (enc:=(.int .i64 ·)) O ab ac))<|aB 2 rfl<|aD kh16<|aX rfl (fun c50=>?_) (fun c50=>?_)
     ·rw [if_pos c50] at hb;refine aI<|aB 1 rfl<|cL fY rfl<|cX Tryz.isAgg3 rfl (rdA rfl)<|f_S (bQ eL aA rfl rfl rfl fun b54=>?_)
      refine f_S (dE eL rfl rfl hO (ys:=[.int .i64 l[i].src]) ⟨(rdA rfl),trivial⟩ rfl rfl aA aA fun v55 ao be=>?_);obtain ⟨Z,J⟩:∃ Z,Z=bdR L c (l.take i)++[l[i].src]:=⟨_,rfl⟩
      have U:Own 3 1 v55 Z.length (bF Z) ao:=by rw [J,List.length_append,eJ];exact be
      have an:Z.length≤2*i+1:=by rw [J,List.length_append,List.length_singleton];omega
      refine aB 1 rfl<|aD kh15<|aG fun kh17=>aB 1 rfl<|cL fO rfl<|cX Tryz.isAgg3 rfl (rdA rfl)<|f_Q (aL bX rfl rfl (or+l[i].dst.toNat))<|f_Q (aH Tryz.isAgg3 rfl (d3 (enc:=(.int .i64 ·)) O ab Y))<|aB 2 rfl<|aD kh17<|aX rfl (fun c62=>?_) (fun c62=>?_)
      ·rw [if_pos c62] at hb;rw [hb,← List.append_assoc,← J] at F;refine aI<|aB 1 rfl<|cL fO rfl<|cX Tryz.isAgg3 rfl (rdA rfl)<|f_S (bQ eL aA rfl rfl rfl fun b66=>?_)
       refine f_S (dE eL rfl rfl U (ys:=[.int .i64 l[i].dst]) ⟨(rdA rfl),trivial⟩ rfl rfl aA aA fun al ah ag=>?_);refine aB 1 rfl<|aZ<|dF<|bO kh11<|aI<|f_Q (a8 rfl rfl)<|aB 1 rfl<|aZ ?_
       refine cS (a6 (i+1,al,ah) (by first|omega|(dsimp only;omega)|(simp;omega)) ⟨aA,by rw [F,List.length_append,eJ];exact ag⟩ ?_ ?_ ?_)
       ·exact aF
       ·exact aF
       ·exact aC
      ·rw [if_neg c62,List.append_nil] at hb;rw [hb,← J] at F;refine dY<|dF<|bO kh11<|aI<|f_Q (a8 rfl rfl)<|aB 1 rfl<|aZ ?_
       refine cS (a6 (i+1,v55,ao) (by first|omega|(dsimp only;omega)|(simp;omega)) ⟨aA,by rw [F];exact U⟩ ?_ ?_ ?_)
       ·exact aF
       ·exact aF
       ·exact aC
     ·rw [if_neg c50] at hb;obtain ⟨Z,J⟩:∃ Z,Z=bdR L c (l.take i)++[]:=⟨_,rfl⟩
      have U:Own 3 1 (.slice Ao (bdR L c (l.take i)).length co) Z.length (bF Z) X:=by rw [J,List.append_nil];exact hO
      have an:Z.length≤2*i+1:=by rw [J,List.append_nil];omega
      refine bV kh15<|aG fun kh18=>aB 1 rfl<|cL fO rfl<|cX Tryz.isAgg3 rfl (rdA rfl)<|f_Q (aL bX rfl rfl (or+l[i].dst.toNat))<|f_Q (aH Tryz.isAgg3 rfl (d3 (enc:=(.int .i64 ·)) O ab Y))<|aB 2 rfl<|aD kh18<|aX rfl (fun c62=>?_) (fun c62=>?_)
      ·rw [if_pos c62] at hb;rw [hb,← List.append_assoc,← J] at F;refine aI<|aB 1 rfl<|cL fO rfl<|cX Tryz.isAgg3 rfl (rdA rfl)<|f_S (bQ eL aA rfl rfl rfl fun b66=>?_)
       refine f_S (dE eL rfl rfl U (ys:=[.int .i64 l[i].dst]) ⟨(rdA rfl),trivial⟩ rfl rfl aA aA fun al ah ag=>?_);refine aB 1 rfl<|aZ<|dF<|bO kh11<|aI<|f_Q (a8 rfl rfl)<|aB 1 rfl<|aZ ?_
       refine cS (a6 (i+1,al,ah) (by first|omega|(dsimp only;omega)|(simp;omega)) ⟨aA,by rw [F,List.length_append,eJ];exact ag⟩ ?_ ?_ ?_)
       ·exact aF
       ·exact aF
       ·exact aC
      ·rw [if_neg c62,List.append_nil] at hb;rw [hb,← J] at F;refine dY<|dF<|bO kh11<|aI<|f_Q (a8 rfl rfl)<|aB 1 rfl<|aZ ?_
       refine cS (a6 (i+1,.slice Ao (bdR L c (l.take i)).length co,X) (by first|omega|(dsimp only;omega)|(simp;omega)) ⟨aA,by rw [F];exact U⟩ ?_ ?_ ?_)
       ·exact aF
       ·exact aF
       ·exact aC
   ·obtain rfl:i=l.length:=aA
    rw [List.take_length] at hO ai ap;obtain ⟨LO,ae⟩:∃ LO,bdR L c l=LO:=⟨_,rfl⟩
    rw [ae] at hO ai ap;refine f_reC 12 rfl (v:= .slice Ao LO.length co) (by rw [List.take_length,ae]) ?_;refine cN<|cO<|cO<|eC<|bO kh7<|aG fun kh19=>aB 1 rfl ?_
    refine f_S (d4 [X] _ Tryz.call22 rfl (by repeat (first|exact Sub.refl|refine aM ?_)) (fun w_ hp_=>j9 Ao co LO X w_ hO aA hp_.owns) ?_);rintro _ _ ⟨rfl,m2,rfl,av⟩;dsimp only [aK,aJ];refine aD kh19<|aG fun kh20=>aB 1 rfl ?_
    refine f_S (d4 [m2] _ Tryz.call24 rfl (by repeat (first|exact Sub.refl|refine aM ?_)) (fun w_ hp_=>(by have h:=k8 Ao co (gT LO) m2 w_ (by rw [e6];exact av) (by rw [e6];omega) hp_.owns;rw [e6] at h;exact h)) ?_);rintro bi _ ⟨m3,rfl,ak⟩;obtain ⟨A3,c3,rfl,ar⟩:=ak.val
    dsimp only [aK,aJ];refine f_S (aV Tryz.call23 rfl (fun w_ hp_=>cut_spec A3 (cpt (gT LO)).length c3 w_ ar.1 ar.2 (j5 ak)) ?_);rintro _ _ ⟨rfl,rfl⟩;dsimp only [aK,aJ];refine aB 2 rfl<|aD kh20<|aY ?_
    have e:=aj
    exact cZ [m3] Tryz.results9 rfl rfl aC ⟨_,A3,c3,m3,by rw [e],rfl,ak,fun h=>absurd e h,fun _=>by unfold bdL;rw [show q.toNat - 1=k by omega,aa,ae]⟩
end Go.Proofs.YthpkelafioikaaaGreat
namespace Go.Proofs.YthpkelafioikaaaGreat
open Go Fly
set_option linter.unusedVariables false
set_option linter.unusedSimpArgs false
set_option linter.unusedSectionVars false
abbrev i4:Nat→Bool:=fun _=>true
def pI (l:List Arc) (L:List Int) (c:Int) (i:Nat):Bool:=(l[i]?.map (inP L c)).getD false
theorem pI_at {l:List Arc} {L:List Int} {c:Int} {i:Nat} (h:i<l.length):pI l L c i=inP L c l[i]:=by simp [pI,h]
theorem kW {L:List Int} {c:Int} {a:Arc}:inP L c a=true↔L.getD a.src.toNat 0=c∧L.getD a.dst.toNat 0=c:=by
 unfold inP;rw [Bool.and_eq_true,decide_eq_true_eq,decide_eq_true_eq]
theorem bdL_in {L:List Int} {c:Int} {l:List Arc} {v:Int} (h:v∈bdL L c l):L.getD v.toNat 0=c:=by
 obtain ⟨a,_,ha⟩:=k7.1 h
 rcases (jR.1 ha).2 with ⟨h1,rfl⟩|⟨h1,rfl⟩<;>exact h1
structure MatOk (l:List Arc) (L:List Int) (c:Int) (D:List Int):Prop where
 len:D.length=(bdL L c l).length*(bdL L c l).length
 at_:∀ i j (hi:i<(bdL L c l).length) (hj:j<(bdL L c l).length),IsB l (pI l L c) (bdL L c l)[i].toNat (bdL L c l)[j].toNat (dg D (i*(bdL L c l).length+j))
def mxA (B D:List Int) (k:Nat):List Arc:=if dg D k<INF then [⟨B.getD (k / B.length) 0,B.getD (k % B.length) 0,dg D k⟩] else []
def mxE (B D:List Int) (k:Nat):List Arc:=(List.range k).flatMap (mxA B D)
theorem mxE_next (B D:List Int) (k:Nat):mxE B D (k+1)=mxE B D k++mxA B D k:=by
 unfold mxE;rw [List.range_succ,List.flatMap_append];simp
theorem mxE_mem {B D:List Int} {k:Nat} {a:Arc}:a∈mxE B D k↔∃ i,i<k∧dg D i<INF∧a=⟨B.getD (i / B.length) 0,B.getD (i % B.length) 0,dg D i⟩:=by
 unfold mxE mxA
 rw [List.mem_flatMap];constructor
 ·rintro ⟨i,hi,hm⟩
  split at hm
  ·rename_i h;exact ⟨i,List.mem_range.1 hi,h,List.mem_singleton.1 hm⟩
  ·cases hm
 ·rintro ⟨i,hi,h,rfl⟩
  exact ⟨i,List.mem_range.2 hi,by rw [if_pos h];exact List.mem_singleton.2 rfl⟩
theorem sq_div {k m:Nat} (h:k<m*m):k / m<m∧k % m<m∧k / m*m+k % m=k:=by
 have hm:0<m:=Nat.pos_of_ne_zero fun e=>by subst e;simp at h
 refine ⟨Nat.div_lt_of_lt_mul h,Nat.mod_lt _ hm,?_⟩;have:=Nat.div_add_mod k m
 rw [Nat.mul_comm] at this;exact this
theorem MatOk.arc {l:List Arc} {L:List Int} {c:Int} {D:List Int} (h:MatOk l L c D) {a:Arc} (ha:a∈mxE (bdL L c l) D D.length):a.src∈bdL L c l∧a.dst∈bdL L c l∧a.wt<INF∧Wk l (pI l L c) a.src.toNat a.dst.toNat a.wt:=by
 obtain ⟨k,hk,hlt,rfl⟩:=mxE_mem.1 ha
 obtain ⟨h1,h2,h3⟩:=sq_div (h.len▸hk)
 have hb:=h.at_ _ _ h1 h2
 rw [h3] at hb;have e1:(bdL L c l).getD (k / (bdL L c l).length) 0=(bdL L c l)[k / (bdL L c l).length]:=eM h1
 have e2:(bdL L c l).getD (k % (bdL L c l).length) 0=(bdL L c l)[k % (bdL L c l).length]:=eM h2
 dsimp only;rw [e1,e2];exact ⟨List.getElem_mem _,List.getElem_mem _,hlt,hb.walk hlt⟩
theorem MatOk.over {l:List Arc} {L:List Int} {c:Int} {D:List Int} (h:MatOk l L c D) {x y:Int} (hx:x∈bdL L c l) (hy:y∈bdL L c l) {m:Int} (hm:Wk l (pI l L c) x.toNat y.toNat m) (hlt:m<INF):∃ a∈mxE (bdL L c l) D D.length,a.src=x∧a.dst=y∧a.wt≤m:=by
 obtain ⟨i,hi,rfl⟩:=List.mem_iff_getElem.1 hx
 obtain ⟨j,hj,rfl⟩:=List.mem_iff_getElem.1 hy
 have hb:=h.at_ i j hi hj
 have J:=hb.min m hm
 have F:0<(bdL L c l).length:=aA
 have e1:(i*(bdL L c l).length+j) / (bdL L c l).length=i:=by
  rw [Nat.mul_comm,Nat.mul_add_div F,Nat.div_eq_of_lt hj];omega
 have e2:(i*(bdL L c l).length+j) % (bdL L c l).length=j:=by
  rw [Nat.mul_comm,Nat.mul_add_mod,Nat.mod_eq_of_lt hj]
 have hk:i*(bdL L c l).length+j<D.length:=by
  rw [h.len];have:(i+1)*(bdL L c l).length≤(bdL L c l).length*(bdL L c l).length:=Nat.mul_le_mul_right _ hi
  rw [Nat.succ_mul] at this;omega
 refine ⟨_,mxE_mem.2 ⟨_,hk,aA,rfl⟩,?_,?_,J⟩
 ·dsimp only;rw [e1];exact eM hi
 ·dsimp only;rw [e2];exact eM hj
def SameEnds (l l' :List Arc):Prop:=l.length=l'.length∧∀ i (h:i<l.length) (h' :i<l'.length),l'[i].src=l[i].src∧l'[i].dst=l[i].dst
theorem bdL_ends {l l' :List Arc} (h:SameEnds l l') (L:List Int) (c:Int):bdL L c l' =bdL L c l:=by
 have key:∀ k,k≤l.length→bdR L c (l'.take k)=bdR L c (l.take k):=fun k=>by
  induction k with
  |zero=>intro _;simp [bdR]
  |succ k ih=>
   intro hk;have h1:=h.1
   have ⟨e1,e2⟩:=h.2 k aA aA
   rw [bdR_next aA,bdR_next aA,ih aA]
   unfold bdOf;rw [e1,e2]
 have:=key l.length (Nat.le_refl _)
 rw [List.take_length,List.take_of_length_le (by have:=h.1;omega)] at this
 unfold bdL;rw [this]
theorem MatOk.other {l l' :List Arc} {L:List Int} {c:Int} {D:List Int} (h:MatOk l L c D) (he:SameEnds l l') (hw:∀ i (h:i<l.length) (h' :i<l'.length),inP L c l[i]=true→l'[i]=l[i]):MatOk l' L c D:=by
 have hb:=bdL_ends he L c
 have hp:pI l' L c=pI l L c:=funext fun i=>by
  by_cases hi:i<l.length
  ·have hi' :i<l'.length:=he.1▸hi
   obtain ⟨e1,e2⟩:=he.2 i hi hi'
   rw [pI_at hi,pI_at hi'];unfold inP;rw [e1,e2]
  ·have h1:l[i]? =none:=List.getElem?_eq_none aA
   have h2:l'[i]? =none:=List.getElem?_eq_none (by have:=he.1;omega)
   unfold pI;rw [h1,h2]
 refine ⟨by rw [hb];exact h.len,?_⟩;rw [hb,hp];intro i j hi hj;exact (h.at_ i j hi hj).other he.1 fun k hk J F=>hw k hk J (by rw [pI_at hk] at F;exact F)
theorem IsB.inner {l:List Arc} {L:List Int} {c:Int} {p:Nat→Bool} (hp:∀ i (h:i<l.length),p i=decide (L.getD l[i].dst.toNat 0=c)) {s t:Nat} {x:Int} (hs:L.getD s 0=c) (h:IsB l p s t x):IsB l (pI l L c) s t x:=
 h.through (I:=fun v=>L.getD v 0=c) hs
  (fun i hi h1 h2=>by rw [hp i hi] at h2;exact ⟨by simpa using h2,by rw [pI_at hi,kW];exact ⟨h1,by simpa using h2⟩⟩)
  (fun i hi h1 h2=>by rw [pI_at hi,kW] at h2;exact ⟨h2.2,by rw [hp i hi,decide_eq_true_eq];exact h2.2⟩)
structure Kids (n:Nat) (Lb L:List Int) (c:Int) (kids:List Int):Prop where
 mem:∀ v,v<n→L.getD v 0=c→Lb.getD v 0∈kids
 has:∀ x∈kids,∃ v,v<n∧L.getD v 0=c∧Lb.getD v 0=x
structure UpE (l:List Arc) (Lb L:List Int) (c:Int) (kids:List Int) (E:List Arc):Prop where
 src:∀ a∈E,(∃ k∈kids,a.src∈bdL Lb k l∧a.dst∈bdL Lb k l∧a.wt<INF∧Wk l (pI l Lb k) a.src.toNat a.dst.toNat a.wt)∨(a∈l∧btP L Lb c a=true)
 mat:∀ k∈kids,∀ x y m,x∈bdL Lb k l→y∈bdL Lb k l→Wk l (pI l Lb k) x.toNat y.toNat m→m<INF→∃ a∈E,a.src=x∧a.dst=y∧a.wt≤m
 btw:∀ a∈l,btP L Lb c a=true→a∈E
theorem btP_iff {L B:List Int} {c:Int} {a:Arc}:btP L B c a=true↔(L.getD a.src.toNat 0=c∧L.getD a.dst.toNat 0=c)∧B.getD a.src.toNat 0≠B.getD a.dst.toNat 0:=by
 unfold btP unP;rw [Bool.and_eq_true,kW,decide_eq_true_eq]
variable {n:Nat} {l E:List Arc} {Lb L:List Int} {c:Int} {kids:List Int}
theorem up_ov (hg:∀ i (h:i<l.length),0≤l[i].src∧l[i].src<(n:Int)∧0≤l[i].dst∧l[i].dst<(n:Int)) (ag:Lb.length=n) (J:iN Lb L) (hk:Kids n Lb L c kids) (hE:UpE l Lb L c kids E):
  Ov l E (pI l L c) (fun i=>(l[i]?.map fun a=>decide (Lb.getD a.src.toNat 0=Lb.getD a.dst.toNat 0)).getD false) (fun v=>v<n∧L.getD v 0=c∧(v:Int)∈bdL Lb (Lb.getD v 0) l) where
 sound i hi:=by
  rcases hE.src _ (List.getElem_mem hi) with ⟨k,Y,h1,h2,h3,h4⟩|⟨h1,h2⟩
  ·obtain ⟨v0,ae,e1,e2⟩:=hk.has k Y
   refine (h4.keepP (I:=fun v=>v<n∧Lb.getD v 0=k) ⟨?_,bdL_in h1⟩ fun j hj U hp=>?_).2
   ·obtain ⟨a,ha,hb⟩:=k7.1 h1
    obtain ⟨j,hj,rfl⟩:=List.mem_iff_getElem.1 ha
    have:=hg j hj
    rcases (jR.1 hb).2 with ⟨_,e⟩|⟨_,e⟩<;>rw [e]<;>omega
   ·rw [pI_at hj,kW] at hp
    have ah:=hg j hj
    refine ⟨⟨aA,hp.2⟩,?_⟩;rw [pI_at hj,kW];exact ⟨(J _ aA v0 aA (hp.1.trans e2.symm)).trans e1,(J _ aA v0 aA (hp.2.trans e2.symm)).trans e1⟩
  ·obtain ⟨j,hj,e⟩:=List.mem_iff_getElem.1 h1
   rw [← e] at h2 ⊢;exact Wk.one hj (by rw [pI_at hj,kW];exact (btP_iff.1 h2).1)
 arc i hi hp hs:=by
  rw [pI_at hi,kW] at hp;have F:Lb.getD l[i].src.toNat 0≠Lb.getD l[i].dst.toNat 0:=by simpa [hi] using hs
  have ab:=hg i hi
  obtain ⟨j,hj,e⟩:=List.mem_iff_getElem.1 (hE.btw _ (List.getElem_mem hi) (btP_iff.2 ⟨hp,F⟩))
  refine ⟨⟨aA,hp.1,k7.2 ⟨_,List.getElem_mem hi,jR.2 ⟨F,.inl ⟨rfl,?_⟩⟩⟩⟩,⟨aA,hp.2,k7.2 ⟨_,List.getElem_mem hi,jR.2 ⟨F,.inr ⟨rfl,?_⟩⟩⟩⟩,j,hj,by rw [e],by rw [e],by rw [e];exact Int.le_refl _⟩<;>omega
 part x y m hx hy hlt hm:=by
  have hsm:=hm.same (f:=fun v=>Lb.getD v 0) fun i hi hp=>by
   rw [Bool.and_eq_true] at hp
   simpa [hi] using hp.2
  obtain ⟨X,Z,aa⟩:=hx
  obtain ⟨ac,ad,O⟩:=hy
  rw [hsm] at O
  have hw:=(hm.keepP (I:=fun v=>Lb.getD v 0=Lb.getD x 0) (q:=pI l Lb (Lb.getD x 0)) rfl fun i hi U hp=>by
   rw [Bool.and_eq_true] at hp;have h2:Lb.getD l[i].src.toNat 0=Lb.getD l[i].dst.toNat 0:=by simpa [hi] using hp.2
   exact ⟨h2▸U,by rw [pI_at hi,kW];exact ⟨U,h2▸U⟩⟩).2
  obtain ⟨a,ha,e1,e2,e3⟩:=hE.mat _ (hk.mem x X Z) (x:Int) (y:Int) m aa O (by simpa using hw) hlt
  obtain ⟨j,hj,rfl⟩:=List.mem_iff_getElem.1 ha
  have h1:=Wk.one (p:=fun _=>true) hj rfl
  rw [e1,e2,Int.toNat_natCast,Int.toNat_natCast] at h1;exact ⟨_,e3,h1⟩
theorem bd_gate (hg:∀ i (h:i<l.length),0≤l[i].src∧l[i].src<(n:Int)∧0≤l[i].dst∧l[i].dst<(n:Int)) (U:Lb.length=n) (O:iN Lb L) {v:Int} (h:v∈bdL L c l):v.toNat<n∧0≤v∧L.getD v.toNat 0=c∧((v.toNat:Nat):Int)∈bdL Lb (Lb.getD v.toNat 0) l:=by
 obtain ⟨a,ha,hb⟩:=k7.1 h
 obtain ⟨j,hj,rfl⟩:=List.mem_iff_getElem.1 ha
 have J:=hg j hj
 obtain ⟨hne,ho⟩:=jR.1 hb
 have F:Lb.getD l[j].src.toNat 0≠Lb.getD l[j].dst.toNat 0:=fun e=>hne (O _ aA _ aA e)
 rcases ho with ⟨h1,rfl⟩|⟨h1,rfl⟩
 ·exact ⟨aA,J.1,h1,k7.2 ⟨_,List.getElem_mem hj,jR.2 ⟨F,.inl ⟨rfl,aA⟩⟩⟩⟩
 ·exact ⟨aA,J.2.2.1,h1,k7.2 ⟨_,List.getElem_mem hj,jR.2 ⟨F,.inr ⟨rfl,aA⟩⟩⟩⟩
theorem up_ok (hg:∀ i (h:i<l.length),0≤l[i].src∧l[i].src<(n:Int)∧0≤l[i].dst∧l[i].dst<(n:Int)) (O:∀ x∈l,0≤x.wt) (J:Lb.length=n) (F:iN Lb L) (hk:Kids n Lb L c kids) (Y:UpE l Lb L c kids E) {D:List Int} (hl:D.length=(bdL L c l).length*(bdL L c l).length)
  (U:∀ i j (hi:i<(bdL L c l).length) (hj:j<(bdL L c l).length),IsB E i4 (bdL L c l)[i].toNat (bdL L c l)[j].toNat (dg D (i*(bdL L c l).length+j))):MatOk l L c D:=
 ⟨hl,fun i j hi hj=>by
  obtain ⟨Z,_,a2,a3⟩:=bd_gate hg J F (List.getElem_mem hi)
  obtain ⟨b1,_,b2,X⟩:=bd_gate hg J F (List.getElem_mem hj)
  exact (up_ov hg J F hk Y).isB O ⟨Z,a2,a3⟩ ⟨b1,b2,X⟩ (U i j hi hj)⟩
end Go.Proofs.YthpkelafioikaaaGreat
namespace Go.Proofs.YthpkelafioikaaaGreat
open Go Fly
set_option linter.unusedVariables false
set_option linter.unusedSimpArgs false
set_option linter.unusedSectionVars false
theorem apV_leQ (L:List (List Int)) (u v:Nat):∀ k,apV L u v k≤k
 |0=>Nat.le_refl _
 |k+1=>by
  have:=apV_leQ L u v k
  unfold apV
  split<;>omega
theorem apV_sameQ (L:List (List Int)) (u:Nat):∀ k,apV L u u k=0
 |0=>rfl
 |k+1=>by
  unfold apV
  rw [if_neg aN];exact apV_sameQ L u k
theorem apV_congr {L:List (List Int)} {u v s k:Nat}:∀ {K:Nat},(∀ j,k≤j→j<K→(L.getD j []).getD u 0=(L.getD j []).getD v 0)→k<apV L u s K→apV L v s K=apV L u s K
 |0,_,h=>by simp [apV] at h
 |K+1,he,h=>by
  unfold apV at h ⊢
  by_cases hk:k≤K
  ·rw [he K hk aA] at h ⊢
   split
   ·rfl
   ·rename_i hn;rw [if_neg hn] at h;exact apV_congr (fun j h1 h2=>he j h1 aA) h
  ·split at h
   ·omega
   ·have:=apV_leQ L u s K;omega
def atV (L:List (List Int)) (s t K v:Nat):Nat:=min (apV L v s K) (apV L v t K)
theorem atV_le (L:List (List Int)) (s t K v:Nat):atV L s t K v≤K:=by
 have:=apV_leQ L v s K;unfold atV;omega
structure Lvs (n K:Nat) (L:List (List Int)):Prop where
 len:∀ k,k<K→(L.getD k []).length=n
 up:∀ k,k+1<K→iN (L.getD k []) (L.getD (k+1) [])
theorem Lvs.above {n K:Nat} {L:List (List Int)} (h:Lvs n K L) {u v:Nat} (J:u<n) (hv:v<n) {k:Nat} (e:(L.getD k []).getD u 0=(L.getD k []).getD v 0):∀ j,k≤j→j<K→(L.getD j []).getD u 0=(L.getD j []).getD v 0:=by
 intro j hj
 induction j with
 |zero=>intro _;rw [show k=0 by omega] at e;exact e
 |succ j ih=>
  intro F
  by_cases e2:k=j+1
  ·rw [← e2];exact e
  ·have hl:=h.len j aA
   exact h.up j F u aA v aA (ih aA aA)
theorem atV_same {n K:Nat} {L:List (List Int)} (h:Lvs n K L) {s t u v k:Nat} (J:u<n) (hv:v<n) (ha:atV L s t K u=k+1) (e:(L.getD k []).getD u 0=(L.getD k []).getD v 0):atV L s t K v=k+1:=by
 have F:=h.above J hv e
 unfold atV at ha ⊢
 rw [apV_congr F aA,apV_congr F aA];exact ha
def qP (L:List (List Int)) (s t K:Nat) (a:Arc):Bool:=decide (atV L s t K a.src.toNat=0)||(decide (atV L s t K a.src.toNat≠atV L s t K a.dst.toNat)||decide ((L.getD (atV L s t K a.src.toNat - 1) []).getD a.src.toNat 0≠(L.getD (atV L s t K a.src.toNat - 1) []).getD a.dst.toNat 0))
structure QyE (n:Nat) (l:List Arc) (L:List (List Int)) (s t K:Nat) (E:List Arc):Prop where
 src:∀ a∈E,(∃ p,Wk l p a.src.toNat a.dst.toNat a.wt)∨a∈l
 mat:∀ k v,v<n→atV L s t K v=k+1→∀ x y m,x∈bdL (L.getD k []) ((L.getD k []).getD v 0) l→y∈bdL (L.getD k []) ((L.getD k []).getD v 0) l→Wk l (pI l (L.getD k []) ((L.getD k []).getD v 0)) x.toNat y.toNat m→m<INF→∃ a∈E,a.src=x∧a.dst=y∧a.wt≤m
 btw:∀ a∈l,qP L s t K a=true→a∈E
variable {n K:Nat} {l E:List Arc} {L:List (List Int)} {s t:Nat}
theorem qP_no {a:Arc} (h:qP L s t K a=false):atV L s t K a.src.toNat≠0∧atV L s t K a.src.toNat=atV L s t K a.dst.toNat∧(L.getD (atV L s t K a.src.toNat - 1) []).getD a.src.toNat 0=(L.getD (atV L s t K a.src.toNat - 1) []).getD a.dst.toNat 0:=by
 unfold qP at h
 rw [Bool.or_eq_false_iff,Bool.or_eq_false_iff,decide_eq_false_iff_not,decide_eq_false_iff_not,decide_eq_false_iff_not] at h;exact ⟨h.1,Classical.not_not.1 h.2.1,Classical.not_not.1 h.2.2⟩
theorem qP_gate (F:Lvs n K L) {u v:Nat} (J:u<n) (hv:v<n) (hq:¬ (atV L s t K u≠0∧atV L s t K u=atV L s t K v∧(L.getD (atV L s t K u - 1) []).getD u 0=(L.getD (atV L s t K u - 1) []).getD v 0)) (O:atV L s t K u≠0):(L.getD (atV L s t K u - 1) []).getD u 0≠(L.getD (atV L s t K u - 1) []).getD v 0:=fun e=>by
 have h1:=atV_same (k:=atV L s t K u - 1) F J hv (s:=s) (t:=t) aA e
 exact hq ⟨O,aA,e⟩
theorem qry_ov (hg:∀ i (h:i<l.length),0≤l[i].src∧l[i].src<(n:Int)∧0≤l[i].dst∧l[i].dst<(n:Int)) (ab:∀ x∈l,0≤x.wt) (hL:Lvs n K L) (hE:QyE n l L s t K E):
  Ov l E i4 (fun i=>(l[i]?.map fun a=> !qP L s t K a).getD false) (fun v=>v<n∧(atV L s t K v=0∨(v:Int)∈bdL (L.getD (atV L s t K v - 1) []) ((L.getD (atV L s t K v - 1) []).getD v 0) l)) where
 sound i hi:=by
  rcases hE.src _ (List.getElem_mem hi) with ⟨p,h4⟩|h2
  ·exact h4.mono fun _ _=>rfl
  ·obtain ⟨j,hj,e⟩:=List.mem_iff_getElem.1 h2
   rw [← e];exact Wk.one hj rfl
 arc i hi _ hs:=by
  have hq:qP L s t K l[i]=true:=by simpa [hi] using hs
  have ad:=hg i hi
  have hu:l[i].src.toNat<n:=aA
  have hv:l[i].dst.toNat<n:=aA
  have U:¬ (atV L s t K l[i].src.toNat≠0∧atV L s t K l[i].src.toNat=atV L s t K l[i].dst.toNat∧(L.getD (atV L s t K l[i].src.toNat - 1) []).getD l[i].src.toNat 0=(L.getD (atV L s t K l[i].src.toNat - 1) []).getD l[i].dst.toNat 0):=by
   rintro ⟨h1,h2,h3⟩
   unfold qP at hq
   rw [decide_eq_false h1,decide_eq_false (fun h=>h h2),decide_eq_false (fun h=>h h3)] at hq;cases hq
  obtain ⟨j,hj,e⟩:=List.mem_iff_getElem.1 (hE.btw _ (List.getElem_mem hi) hq)
  refine ⟨⟨hu,?_⟩,⟨hv,?_⟩,j,hj,by rw [e],by rw [e],by rw [e];exact Int.le_refl _⟩
  ·by_cases O:atV L s t K l[i].src.toNat=0
   ·exact .inl O
   ·have:=qP_gate hL hu hv U O
    exact .inr (k7.2 ⟨_,List.getElem_mem hi,jR.2 ⟨this,.inl ⟨rfl,aA⟩⟩⟩)
  ·by_cases O:atV L s t K l[i].dst.toNat=0
   ·exact .inl O
   ·have:=qP_gate hL hv hu (fun ⟨h1,h2,h3⟩=>U ⟨aA,h2.symm,by rw [← h2];exact h3.symm⟩) O
    exact .inr (k7.2 ⟨_,List.getElem_mem hi,jR.2 ⟨fun e=>this e.symm,.inr ⟨rfl,aA⟩⟩⟩)
 part x y m hx hy hlt hm:=by
  obtain ⟨F,Z⟩:=hx
  obtain ⟨ai,Y⟩:=hy
  have ah:=hm.nonneg ab
  cases hk:atV L s t K x with
  |zero=>
   obtain ⟨e,_⟩:=hm.keepP (I:=fun v=>v=x) (q:=i4) rfl fun i hi J hp=>by
    have hq:qP L s t K l[i]=false:=by simpa [hi] using hp
    have:=(qP_no hq).1
    rw [J,hk] at this;exact absurd rfl this
   subst e;exact ⟨0,ah,.nil⟩
  |succ k=>
   obtain ⟨⟨ae,e⟩,hw⟩:=hm.keepP (I:=fun v=>v<n∧(L.getD k []).getD x 0=(L.getD k []).getD v 0) (q:=pI l (L.getD k []) ((L.getD k []).getD x 0)) ⟨F,rfl⟩ fun i hi J hp=>by
    have hq:qP L s t K l[i]=false:=by simpa [hi] using hp
    have ad:=hg i hi
    obtain ⟨h1,h2,h3⟩:=qP_no hq
    have ag:=atV_same hL F J.1 hk J.2
    rw [ag,Nat.add_sub_cancel] at h3;exact ⟨⟨aA,J.2.trans h3⟩,by rw [pI_at hi,kW];exact ⟨J.2.symm,(J.2.trans h3).symm⟩⟩
   have aa:=atV_same hL F ae hk e
   rw [hk,Nat.add_sub_cancel] at Z;rw [aa,Nat.add_sub_cancel] at Y;have ac:=Z.resolve_left aA
   have X:=Y.resolve_left aA
   rw [← e] at X;obtain ⟨a,ha,e1,e2,e3⟩:=hE.mat k x F hk (x:Int) (y:Int) m ac X (by simpa using hw) hlt
   obtain ⟨j,hj,rfl⟩:=List.mem_iff_getElem.1 ha
   have h1:=Wk.one (p:=fun _=>true) hj rfl
   rw [e1,e2,Int.toNat_natCast,Int.toNat_natCast] at h1;exact ⟨_,e3,h1⟩
theorem qry_ok (hg:∀ i (h:i<l.length),0≤l[i].src∧l[i].src<(n:Int)∧0≤l[i].dst∧l[i].dst<(n:Int)) (F:∀ x∈l,0≤x.wt) (J:Lvs n K L) (O:QyE n l L s t K E) (hs:s<n) (U:t<n) {x:Int} (h:IsB E i4 s t x):IsB l i4 s t x:=
 (qry_ov hg F J O).isB F ⟨hs,.inl (by unfold atV;rw [apV_sameQ];omega)⟩ ⟨U,.inl (by unfold atV;rw [apV_sameQ];omega)⟩ h
theorem Wk.leaves {L:List Int} {c:Int} (hg:∀ i (h:i<l.length),0≤l[i].src∧0≤l[i].dst) (hs:L.getD s 0=c) {u:Nat} {m:Int} (h:Wk l i4 s u m):
  (L.getD u 0=c∧Wk l (pI l L c) s u m)∨∃ v∈bdL L c l,∃ a b,Wk l (pI l L c) s v.toNat a∧Wk l i4 v.toNat u b∧a+b=m:=by
 induction h with
 |nil=>exact .inl ⟨hs,.nil⟩
 | @step m i hi hp _ ih=>
  rcases ih with ⟨h1,h2⟩|⟨v,hv,a,b,h1,h2,h3⟩
  ·by_cases hd:L.getD l[i].dst.toNat 0=c
   ·exact .inl ⟨hd,.step hi (by rw [pI_at hi,kW];exact ⟨h1,hd⟩) h2⟩
   ·exact .inr ⟨l[i].src,k7.2 ⟨_,List.getElem_mem hi,jR.2 ⟨fun e=>hd (e▸h1),.inl ⟨h1,rfl⟩⟩⟩,m,l[i].wt,h2,Wk.one hi rfl,rfl⟩
  ·exact .inr ⟨v,hv,a,b+l[i].wt,h1,.step hi rfl h2,aA⟩
end Go.Proofs.YthpkelafioikaaaGreat
namespace Go.Proofs.YthpkelafioikaaaGreat
open Go Go.RowKit Fly
set_option maxRecDepth 100000
set_option maxHeartbeats 4000000
set_option linter.all false

end Go.Proofs.YthpkelafioikaaaGreat
