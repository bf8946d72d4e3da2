import Derived.Test.YthpkelafioikaaaGreatFlyRun
import Derived.Shelf.Lays
import Derived.Test.YthpkelafioikaaaGreatProg
import Derived.Test.YthpkelafioikaaaGreatAll1
import Derived.Test.YthpkelafioikaaaGreatFlyT
import Derived.Test.YthpkelafioikaaaGreatAll2
import Derived.Test.YthpkelafioikaaaGreatAll0
import Derived.Test.YthpkelafioikaaaGreatFlyR
namespace Go.Proofs
open Go.Shelf
def Tryz.laysSort_ren:Go.Shelf.Ren:=⟨fun|189=>22|125=>60|257=>59|128=>105|129=>106|294=>96|295=>97|296=>98|297=>99|298=>100|299=>101|216=>102|300=>103|301=>104|328=>143|329=>144|330=>145|331=>146|332=>147|215=>148|343=>173|n=>n,fun|28=>25|3=>3|46=>118|0=>0|51=>56|53=>45|4=>4|183=>177|182=>176|131=>144|5=>5|9=>9|218=>238|222=>242|228=>280|229=>281|n=>n,fun|n=>n⟩
theorem Tryz.laysSort:Go.Proofs.Lays.n189 Tryz.prog Tryz.laysSort_ren:={
 mixed:=by kernel_rfl
 f125:=Tryz.func60.trans (congrArg some (by kernel_rfl))
 f128:=Tryz.func105.trans (congrArg some (by kernel_rfl))
 f129:=Tryz.func106.trans (congrArg some (by kernel_rfl))
 f189:=Tryz.func22.trans (congrArg some (by kernel_rfl))
 f215:=Tryz.func148.trans (congrArg some (by kernel_rfl))
 f216:=Tryz.func102.trans (congrArg some (by kernel_rfl))
 f257:=Tryz.func59.trans (congrArg some (by kernel_rfl))
 f294:=Tryz.func96.trans (congrArg some (by kernel_rfl))
 f295:=Tryz.func97.trans (congrArg some (by kernel_rfl))
 f296:=Tryz.func98.trans (congrArg some (by kernel_rfl))
 f297:=Tryz.func99.trans (congrArg some (by kernel_rfl))
 f298:=Tryz.func100.trans (congrArg some (by kernel_rfl))
 f299:=Tryz.func101.trans (congrArg some (by kernel_rfl))
 f300:=Tryz.func103.trans (congrArg some (by kernel_rfl))
 f301:=Tryz.func104.trans (congrArg some (by kernel_rfl))
 f328:=Tryz.func143.trans (congrArg some (by kernel_rfl))
 f329:=Tryz.func144.trans (congrArg some (by kernel_rfl))
 f330:=Tryz.func145.trans (congrArg some (by kernel_rfl))
 f331:=Tryz.func146.trans (congrArg some (by kernel_rfl))
 f332:=Tryz.func147.trans (congrArg some (by kernel_rfl))
 f343:=Tryz.func173.trans (congrArg some (by kernel_rfl))
 t0:=Tryz.underlying0
 a0:=Tryz.isAgg0
 z0:=Tryz.sizeOf0
 v0:=Tryz.zeroValue0
 t3:=Tryz.underlying3
 a3:=Tryz.isAgg3
 z3:=Tryz.sizeOf3
 v3:=Tryz.zeroValue3
 t4:=Tryz.underlying4
 a4:=Tryz.isAgg4
 z4:=Tryz.sizeOf4
 v4:=Tryz.zeroValue4
 t5:=Tryz.underlying5
 a5:=Tryz.isAgg5
 z5:=Tryz.sizeOf5
 v5:=Tryz.zeroValue5
 t9:=Tryz.underlying9
 a9:=Tryz.isAgg9
 z9:=Tryz.sizeOf9
 v9:=Tryz.zeroValue9
 t28:=Tryz.underlying25
 a28:=Tryz.isAgg25
 z28:=Tryz.sizeOf25
 v28:=Tryz.zeroValue25
 t46:=Tryz.underlying118
 a46:=Tryz.isAgg118
 z46:=Tryz.sizeOf118
 v46:=Tryz.zeroValue118
 t51:=Tryz.underlying56
 a51:=Tryz.isAgg56
 z51:=Tryz.sizeOf56
 v51:=Tryz.zeroValue56
 t53:=Tryz.underlying45
 a53:=Tryz.isAgg45
 z53:=Tryz.sizeOf45
 v53:=Tryz.zeroValue45
 t131:=Tryz.underlying144
 a131:=Tryz.isAgg144
 z131:=Tryz.sizeOf144
 v131:=Tryz.zeroValue144
 t182:=Tryz.underlying176
 a182:=Tryz.isAgg176
 z182:=Tryz.sizeOf176
 v182:=Tryz.zeroValue176
 t183:=Tryz.underlying177
 a183:=Tryz.isAgg177
 z183:=Tryz.sizeOf177
 v183:=Tryz.zeroValue177
 t218:=Tryz.underlying238
 a218:=Tryz.isAgg238
 z218:=Tryz.sizeOf238
 v218:=Tryz.zeroValue238
 t222:=Tryz.underlying242
 a222:=Tryz.isAgg242
 z222:=Tryz.sizeOf242
 v222:=Tryz.zeroValue242
 t228:=Tryz.underlying280
 a228:=Tryz.isAgg280
 z228:=Tryz.sizeOf280
 v228:=Tryz.zeroValue280
 t229:=Tryz.underlying281
 a229:=Tryz.isAgg281
 z229:=Tryz.sizeOf281
 v229:=Tryz.zeroValue281 }
end Go.Proofs
namespace Go.Proofs.YthpkelafioikaaaGreat
open Go Go.RowKit Fly
set_option maxRecDepth 100000
set_option maxHeartbeats 4000000
set_option linter.all false
theorem lZ (A:Option Addr) (cap:Nat) (l:List Int) (m:Seg) (w:World) (ho:Own 3 1 (.slice A l.length cap) l.length (a8 l) m) (hl:l.length<4611686018427387904) (hw:Owns w [m]):
  Meets Tryz.prog 22 [.slice A l.length cap] w [m] (fun u own' =>u= .tuple #[]∧∃ m',own' =[m']∧Own 3 1 (.slice A l.length cap) l.length (a8 (iU l)) m'):=
 meets_sort Tryz.laysSort A cap l m w ho hl hw
theorem clE_row {N:Int} {l:List Arc} {bs:List Int} {R:List Row} {q c:Int} (h:clE N l bs (bJ R) q c=0):lkE N l bs (bJ R) q=0:=by
 unfold clE at h
 by_cases h1:lkE N l bs (bJ R) q=0
 ·exact h1
 ·rw [if_pos h1] at h;exact h
theorem qD {R:List Row} {q:Int} {r:Row} (h:R[(q - 1).toNat]? =some r) (hq:1≤q):(bJ R).getD (q.toNat - 1) []=r.2.1:=by
 have e:(q - 1).toNat=q.toNat - 1:=aA
 rw [e] at h
 unfold bJ
 rw [List.getD_eq_getElem?_getD,List.getElem?_map,h];rfl
theorem mem_pos {n:Nat} {L:List Int} (F:eG (n:Int) L=true) (hn:1≤n) {j:Nat} (hj:(j:Int)<fC L+1):0<(h8 L (j:Int) L.length).length:=by
 have h:=right_cntN F hn (j:=j) aA
 unfold cnt at h
 obtain ⟨x,hx⟩:=List.exists_mem_of_length_pos (show 0<(L.filter fun x=>decide (x=Int.ofNat j)).length by omega)
 obtain ⟨h1,h2⟩:=List.mem_filter.1 hx
 obtain ⟨v,hv,e⟩:=List.mem_iff_getElem.1 h1
 have:(v:Int)∈h8 L (j:Int) L.length:=by
  unfold h8
  refine List.mem_map.2 ⟨v,List.mem_filter.2 ⟨by simpa using hv,?_⟩,rfl⟩;rw [decide_eq_true_eq,List.getD_eq_getElem?_getD,List.getElem?_eq_getElem hv,Option.getD_some,e]
  simpa using h2
 exact List.length_pos_of_mem this
theorem memTo_mem {L:List Int} {c:Int} {k:Nat} {x:Int}:x∈h8 L c k↔∃ v:Nat,x=(v:Int)∧v<k∧L.getD v 0=c:=by
 unfold h8
 simp only [List.mem_map,List.mem_filter,List.mem_range,decide_eq_true_eq];constructor
 ·rintro ⟨v,⟨h1,h2⟩,rfl⟩;exact ⟨v,rfl,h1,h2⟩
 ·rintro ⟨v,rfl,h1,h2⟩;exact ⟨v,⟨h1,h2⟩,rfl⟩
def lowL (B M:List Int):List Int:=M.map fun v=>B.getD v.toNat 0
def chE (N:Int) (l:List Arc) (bs:List Int) (L:List (List Int)) (q c:Int):Int:=if clE N l bs L q c≠0 then clE N l bs L q c else if q=1 then 111 else 0
def chL (L:List (List Int)) (q c:Int):List Int:=cpt (iU (lowL (L.getD (q.toNat - 2) []) (h8 (L.getD (q.toNat - 1) []) c (L.getD (q.toNat - 1) []).length)))
def apV (L:List (List Int)) (u v:Nat):Nat→Nat
 |0=>0
 |k+1=>if (L.getD k []).getD u 0≠(L.getD k []).getD v 0 then k+1 else apV L u v k
theorem lowL_next {B M:List Int} {k:Nat} (h:k<M.length):lowL B (M.take (k+1))=lowL B (M.take k)++[B.getD M[k].toNat 0]:=by
 unfold lowL;rw [List.take_succ_eq_append_getElem h,List.map_append];rfl
theorem lowL_len (B M:List Int):(lowL B M).length=M.length:=by simp [lowL]
theorem MaxN_spec (B:Option Addr) (L:List Int) (cb:Nat) (w:World) (hL:Ro (Fr w []) w B (a8 L)) (Y:0<L.length) (hm:L.length≤9223372036854775807):
    Meets Tryz.prog 153 [.slice B L.length cb] w [] (fun u m=>u= .int .i64 (fC L)∧m=[]):=by
 obtain ⟨bb,Z,rfl,J,F⟩:=hL (fun e=>by have:=a7 L;rw [e] at this;simp at this;omega)
 refine bG Tryz.func153 rfl Tryz.ntmps153 rfl Owns.nil<|aG fun kh1=>aB 1 rfl<|aD kh1<|aV fun kh2=>aG fun O=>aB 1 rfl<|dY sl169 rfl<|aB 1 rfl<|aD O ?_
 refine d4 rfl aA<|bZ kh2<|aG fun kh4=>aB 1 rfl<|f_Q (aM sl169 rfl rfl (Z+0))<|f_Q (aH Tryz.isAgg3 rfl (eC (enc:=(.int .i64 ·)) J F Y))<|aB 1 rfl<|aD kh4<|aV fun kh5=>aV fun X=>?_
 refine f_reC 3 rfl (v:= .int .i64 ((L.take 1).foldl max (L.headD 0))) (by rw [max_one Y]) ?_;refine aI<|aB 1 rfl<|aD X<|aS ?_
 refine m4 (α:=Nat) [0] (fun k=>[(4,.int .i64 (k:Int)),(3,.int .i64 ((L.take k).foldl max (L.headD 0)))]) (fun k=>1≤k∧k≤L.length) (fun k=>L.length - k) (1) ?_ ?_ ?_
 ·exact aF
 ·exact ⟨aA,aA⟩
 ·rintro k ⟨aa,ab⟩;refine aV fun U=>aG fun kh8=>aB 2 rfl<|dY sl169 rfl<|aB 1 rfl<|aD kh8<|aX rfl (fun c15=>?_) (fun c15=>?_)
  ·have hk:k<L.length:=aA
   refine bZ U<|aV fun kh9=>aS<|aI<|aB 3 rfl<|f_Q (aM sl169 rfl rfl (Z+k))<|f_Q (aH Tryz.isAgg3 rfl (eC (enc:=(.int .i64 ·)) J F hk))<|f_Q (o_max rfl rfl)<|aB 1 rfl<|aY ?_
   refine dI<|bP kh9<|f_reC 3 rfl (v:= .int .i64 ((L.take (k+1)).foldl max (L.headD 0))) (by rw [max_next hk]) ?_
   refine aI<|aB 1 rfl<|f_Q (bF rfl rfl)<|aB 1 rfl<|aY ?_
   refine cV (a6 (k+1) (by first|omega|(dsimp only;omega)|(simp;omega)) ⟨aA,aA⟩ ?_ ?_ ?_)
   ·exact aF
   ·exact aF
   ·exact aC
  ·refine cS<|cU<|cU<|eH<|bP kh5<|aG fun kh10=>aB 2 rfl<|aD kh10<|aZ ?_
   exact bO [] Tryz.results153 rfl aP ⟨by rw [List.take_of_length_le aA];rfl,rfl⟩
theorem lmany_spec (B:Option Addr) (L:List Int) (cb:Nat) (w:World) (U:Ro (Fr w []) w B (a8 L)) (O:0<L.length) (hm:L.length≤9223372036854775807) (hx:fC L≤1000000∧-1000000≤fC L):
    Meets Tryz.prog 118 [.slice B L.length cb] w [] (fun u m=>u= .int .i64 (fC L+1)∧m=[]):=by
 refine bG Tryz.func118 rfl Tryz.ntmps118 rfl Owns.nil<|aG fun kh1=>aB 1 rfl<|aD kh1<|aG fun kh2=>aB 1 rfl ?_
 refine f_S (aW Tryz.call153 rfl (fun J F=>MaxN_spec B L cb J (U.up0 F) O hm) ?_);rintro _ _ ⟨rfl,rfl⟩;dsimp only [aK,aJ];refine f_Q (bF rfl rfl)<|aB 1 rfl<|aD kh2<|aZ ?_
 exact bO [] Tryz.results118 rfl aP ⟨rfl,rfl⟩
theorem lmem_spec (B:Option Addr) (L:List Int) (cb:Nat) (c:Int) (w:World) (hL:Ro (Fr w []) w B (a8 L)) (hm:L.length≤1024):
    Meets Tryz.prog 95 [.slice B L.length cb,.int .i64 c] w [] (fun u own' =>∃ A' c' m',u= .slice A' (h8 L c L.length).length c'∧own' =[m']∧Own 3 1 (.slice A' (h8 L c L.length).length c') (h8 L c L.length).length (a8 (h8 L c L.length)) m'):=by
 refine bG Tryz.func95 rfl Tryz.ntmps95 rfl Owns.nil<|aG fun kh1=>aB 1 rfl<|aD kh1<|aG fun kh2=>aB 1 rfl<|aD kh2<|aV fun kh3=>aG fun Z=>aB 1 rfl ?_
 refine dY sl169 rfl<|aB 1 rfl<|aD Z<|aS ?_
 refine dF (α:=Nat×Value×Seg) [1,8,9] (fun ⟨k,ov,F⟩=>[(10,.int .i64 (k:Int)),(5,ov)]) (fun ⟨k,ov,F⟩=>[F]) (fun ⟨k,ov,F⟩=>k≤L.length∧Own 3 1 ov (h8 L c k).length (a8 (h8 L c k)) F) (fun ⟨k,ov,F⟩=>L.length - k) (0,.slice none 0 0,[]) ?_ ?_ ?_ ?_
 ·exact aF
 ·exact aC
 ·exact ⟨Nat.zero_le _,Own.nil _ _⟩
 ·rintro ⟨k,ov,F⟩ ⟨ah,U⟩;have ae:=pO L c k
  obtain ⟨Ao,co,rfl,ag⟩:=U.val
  refine aG fun kh5=>aB 1 rfl<|aD kh5<|aV fun kh6=>aX rfl (fun ac=>?_) (fun ac=>?_)
  ·have hk:k<L.length:=aA
   obtain ⟨bb,ob,rfl,ab,aa⟩:=hL (fun e=>by have:=a7 L;rw [e] at this;simp at this;omega)
   have O:L.getD k 0=L[k]:=by simp [List.getD_eq_getElem?_getD,hk]
   refine bZ kh6<|aV fun kh7=>aS<|aG fun kh8=>aB 1 rfl<|f_Q (aM sl169 rfl rfl (ob+k))<|f_Q (aH Tryz.isAgg3 rfl (eC (enc:=(.int .i64 ·)) ab aa hk))<|aB 2 rfl<|aD kh8<|aG fun kh9=>?_
   refine aB 3 rfl<|aD kh9<|aX rfl (fun c17=>?_) (fun c17=>?_)
   ·have J:=memTo_yes (L:=L) (c:=c) (k:=k) (by rw [O];exact c17)
    refine aI<|aB 2 rfl<|f_S (bX eO aA rfl rfl rfl fun b20=>?_)
    refine f_S (dJ eO rfl rfl U (ys:=[.int .i64 (k:Int)]) ⟨(rdA rfl),trivial⟩ rfl rfl aA aA fun X Y ad=>?_);refine aB 1 rfl<|aY<|dI<|bP kh7<|aI<|f_Q (bF rfl rfl)<|aB 1 rfl<|aY ?_
    refine cV (a6 (k+1,X,Y) (by first|omega|(dsimp only;omega)|(simp;omega)) ⟨aA,by rw [J,List.length_append,eL];exact ad⟩ ?_ ?_ ?_)
    ·exact aF
    ·exact aF
    ·exact aC
   ·have J:=memTo_no (L:=L) (c:=c) (k:=k) (by rw [O];exact c17)
    refine dZ<|dI<|bP kh7<|aI<|f_Q (bF rfl rfl)<|aB 1 rfl<|aY ?_
    refine cV (a6 (k+1,.slice Ao (h8 L c k).length co,F) (by first|omega|(dsimp only;omega)|(simp;omega)) ⟨aA,by rw [J];exact U⟩ ?_ ?_ ?_)
    ·exact aF
    ·exact aF
    ·exact aC
  ·obtain rfl:k=L.length:=aA
   refine cS<|cU<|cU<|eH<|bP kh3<|aG fun kh10=>aB 2 rfl<|aD kh10<|aZ ?_
   exact bO [F] Tryz.results95 rfl aC ⟨Ao,co,F,rfl,rfl,U⟩
theorem NMany_spec (N:Int) (A:Option Addr) (l:List Arc) (cap:Nat) (Ab:Option Addr) (bs:List Int) (cb:Nat) (Ac:Option Addr) (R:List Row) (cc:Nat) (q:Int) (w:World) (hr:Ro (Fr w []) w A (l.flatMap cH)) (hl:l.length≤9223372036854775807) (hN:I64 N) (hok:∀ x∈l,eN x) (hn:NestRo (Fr w []) w Ab bs Ac R):
    Meets Tryz.prog 72 [.agg #[.int .i64 N,.slice A l.length cap],.agg #[.slice Ab bs.length cb,.slice Ac R.length cc],.int .i64 q] w [] (fun u m=>u= .tuple #[.int .i64 (if lkE N l bs (bJ R) q≠0 then 0 else fC ((bJ R).getD (q.toNat - 1) [])+1),.int .i64 (lkE N l bs (bJ R) q)]∧m=[]):=by
 refine bG Tryz.func72 rfl Tryz.ntmps72 rfl Owns.nil<|aG fun kh1=>f_S (cZ rfl rfl fun b3=>?_)
 refine f_S (cZ rfl rfl fun b4=>?_);refine aB 2 rfl<|aD kh1<|aG fun kh2=>f_Q (aQ (vs:=[_,_]) Tryz.isAgg24 Tryz.sizeOf24 rfl rfl ⟨(rdA rfl),(rdA rfl),trivial⟩)<|f_Q (aQ (vs:=[_,_]) Tryz.isAgg34 Tryz.sizeOf34 rfl rfl ⟨(rdA rfl),(rdA rfl),trivial⟩)<|aB 1 rfl ?_
 refine f_S (aW Tryz.call117 rfl (fun w_ J=>nlooked_spec N A l cap Ab bs cb Ac R cc q w_ (hr.up0 J) hl hN hok (hn.up0 J)) ?_);rintro _ _ ⟨r,x,rfl,rfl,ad⟩;dsimp only [aK,aJ];refine aB 3 rfl<|f_S (cX Tryz.zeroValue171 rfl fun b8=>?_)
 refine f_Z (bS Tryz.sizeOf171 rfl rfl rfl rfl cG [fI r,.int .i64 x] rfl ?_);refine aB 1 rfl<|aD kh2<|aV fun kh3=>aG fun kh4=>aB 2 rfl<|aD kh4<|aX rfl (fun c18=>?_) (fun c18=>?_)
 ·refine aG fun ah=>aB 3 rfl<|aD ah<|aZ<|dA ?_
  exact dB [] Tryz.results72 rfl rfl aC ⟨by rw [if_pos (by simpa using c18)],rfl⟩
 ·have O:lkE N l bs (bJ R) q=0:=by simpa using c18
  obtain ⟨hx,aa⟩:=ad O
  have ac:=List.mem_of_getElem? aa
  have U:=hn.rows r ac
  obtain ⟨n,k,ai,Z,aj,ae⟩:=lkE_zero O
  have Y:=Z.right ae
  have F:=qD aa aA
  rw [show q.toNat - 1=k by omega] at F;rw [F] at Y;have ak:=Z.n1
  have ag:=Z.many
  have ab:=(d6 Y).2
  have X:=e7 Y aA
  refine bZ kh3<|aG fun kh6=>cN fa171_0 rfl<|c7 Tryz.isAgg169 rfl (rdA rfl) ?_
  refine f_S (aW Tryz.call118 rfl (fun w_ J=>lmany_spec r.1 r.2.1 r.2.2 w_ (U.1.up0 J) aA U.2 (by have:=X _ (List.getElem_mem (show 0<r.2.1.length by omega));have:=mU (L:=r.2.1) (b:=2000) aA (fun x hx=>by have:=X x hx;omega);omega)) ?_);rintro _ _ ⟨rfl,rfl⟩;dsimp only [aK,aJ];refine aB 2 rfl<|aD kh6<|aZ ?_
  exact dB [] Tryz.results72 rfl rfl aC ⟨by rw [if_neg (by rw [O];simp),O,show q.toNat - 1=k by omega,F],rfl⟩
theorem cellOf_spec (N:Int) (A:Option Addr) (l:List Arc) (cap:Nat) (Ab:Option Addr) (bs:List Int) (cb:Nat) (Ac:Option Addr) (R:List Row) (cc:Nat) (q c:Int) (w:World) (hr:Ro (Fr w []) w A (l.flatMap cH)) (hl:l.length≤9223372036854775807) (hN:I64 N) (hok:∀ x∈l,eN x) (hn:NestRo (Fr w []) w Ab bs Ac R):
    Meets Tryz.prog 94 [.agg #[.int .i64 N,.slice A l.length cap],.agg #[.slice Ab bs.length cb,.slice Ac R.length cc],.int .i64 q,.int .i64 c] w [] (fun u m=>∃ (r:Row) (x:Int),u= .tuple #[.agg #[fI r,.int .i64 x],.int .i64 (clE N l bs (bJ R) q c)]∧m=[]∧(clE N l bs (bJ R) q c=0→x=q∧R[(q - 1).toNat]? =some r)):=by
 refine bG Tryz.func94 rfl Tryz.ntmps94 rfl Owns.nil<|aG fun kh1=>f_S (cZ rfl rfl fun b4=>?_)
 refine f_S (cZ rfl rfl fun b5=>?_);refine f_S (cX Tryz.zeroValue171 rfl fun b8=>?_);refine aB 1 rfl<|aD kh1<|aG fun kh2=>f_Q (aQ (vs:=[_,_]) Tryz.isAgg24 Tryz.sizeOf24 rfl rfl ⟨(rdA rfl),(rdA rfl),trivial⟩)<|f_Q (aQ (vs:=[_,_]) Tryz.isAgg34 Tryz.sizeOf34 rfl rfl ⟨(rdA rfl),(rdA rfl),trivial⟩)<|aB 1 rfl ?_
 refine f_S (aW Tryz.call117 rfl (fun w_ J=>nlooked_spec N A l cap Ab bs cb Ac R cc q w_ (hr.up0 J) hl hN hok (hn.up0 J)) ?_);rintro _ _ ⟨r,x,rfl,rfl,ag⟩;dsimp only [aK,aJ];refine aB 3 rfl<|f_S (cX Tryz.zeroValue171 rfl fun b10=>?_)
 refine f_Z (bS Tryz.sizeOf171 rfl rfl rfl rfl cG [fI r,.int .i64 x] rfl ?_);refine aB 1 rfl<|aD kh2<|aV fun kh3=>aG fun kh4=>aB 2 rfl<|aD kh4<|aX rfl (fun c20=>?_) (fun c20=>?_)
 ·refine aG fun ak=>f_Q (dU (cs:=[fI (none,[],0),.int .i64 0]) st171 rfl rfl)<|aB 1 rfl<|f_Z (bS Tryz.sizeOf171 rfl rfl rfl rfl cG [fI (none,[],0),.int .i64 0] rfl ?_)
  refine aB 1 rfl<|aD ak<|aZ<|dA ?_
  have e:clE N l bs (bJ R) q c=lkE N l bs (bJ R) q:=by unfold clE;rw [if_pos (by simpa using c20)]
  exact gT (vs:=[fI (none,[],0),.int .i64 0]) [] Tryz.results94 rfl Tryz.isAgg171 Tryz.sizeOf171 rfl ⟨(rdA rfl),(rdA rfl),trivial⟩ rfl aC ⟨(none,[],0),0,by rw [e],rfl,fun h=>absurd (e.symm.trans h) (by simpa using c20)⟩
 ·have Y:lkE N l bs (bJ R) q=0:=by simpa using c20
  obtain ⟨hx,ab⟩:=ag Y
  have ae:=List.mem_of_getElem? ab
  have O:=hn.rows r ae
  obtain ⟨n,k,al,aa,am,ah⟩:=lkE_zero Y
  have X:=aa.right ah
  have F:=qD ab aA
  rw [show q.toNat - 1=k by omega] at F;rw [F] at X;have an:=aa.n1
  have ai:=aa.many
  have ad:=(d6 X).2
  have U:=e7 X aA
  have ac:fC r.2.1≤1000000∧-1000000≤fC r.2.1:=by
    have:=U _ (List.getElem_mem (show 0<r.2.1.length by omega))
    have:=mU (L:=r.2.1) (b:=2000) aA (fun x hx=>by have:=U x hx;omega)
    omega
  have Z:clE N l bs (bJ R) q c=if c<0∨fC r.2.1+1≤c then 120 else 0:=by unfold clE;rw [if_neg (by rw [Y];simp),show q.toNat - 1=k by omega,F]
  refine bZ kh3<|aV fun kh6=>aG fun kh7=>aB 3 rfl<|eA 25 rfl (fun g25=>?_) (fun g25=>?_)
  ·refine aB 6 rfl<|aD kh7<|eW rfl<|aG fun kh8=>f_Q (dU (cs:=[fI (none,[],0),.int .i64 0]) st171 rfl rfl)<|f_Z (bS Tryz.sizeOf171 rfl rfl rfl rfl cG [fI (none,[],0),.int .i64 0] rfl ?_)
   refine aB 1 rfl<|aD kh8<|aZ<|dA ?_
   have e:=Z.trans (if_pos aA)
   exact gT (vs:=[fI (none,[],0),.int .i64 0]) [] Tryz.results94 rfl Tryz.isAgg171 Tryz.sizeOf171 rfl ⟨(rdA rfl),(rdA rfl),trivial⟩ rfl aC ⟨(none,[],0),0,by rw [e],rfl,fun h=>absurd (e.symm.trans h) (by decide)⟩
  ·refine aB 1 rfl<|eI rfl rfl (aT fa171_0 rfl)<|eI rfl rfl (aH Tryz.isAgg169 rfl (rdA rfl)) ?_
   refine k9 rfl rfl rfl rfl rfl (aW Tryz.call118 rfl (fun w_ J=>lmany_spec r.1 r.2.1 r.2.2 w_ (O.1.up0 J) aA O.2 ac) ?_);rintro _ _ ⟨rfl,rfl⟩;dsimp only [aK,aJ];refine aB 2 rfl<|aD kh7<|aX rfl (fun c31=>?_) (fun c31=>?_)
   ·refine aG fun aj=>f_Q (dU (cs:=[fI (none,[],0),.int .i64 0]) st171 rfl rfl)<|f_Z (bS Tryz.sizeOf171 rfl rfl rfl rfl cG [fI (none,[],0),.int .i64 0] rfl ?_)
    refine aB 1 rfl<|aD aj<|aZ<|dA ?_
    have e:=Z.trans (if_pos aA)
    exact gT (vs:=[fI (none,[],0),.int .i64 0]) [] Tryz.results94 rfl Tryz.isAgg171 Tryz.sizeOf171 rfl ⟨(rdA rfl),(rdA rfl),trivial⟩ rfl aC ⟨(none,[],0),0,by rw [e],rfl,fun h=>absurd (e.symm.trans h) (by decide)⟩
   ·refine bZ kh6<|aG fun kh10=>f_Q (aQ (vs:=[fI r,.int .i64 x]) Tryz.isAgg171 Tryz.sizeOf171 rfl rfl ⟨(rdA rfl),(rdA rfl),trivial⟩)<|f_Z (bS Tryz.sizeOf171 rfl rfl rfl rfl cG [fI r,.int .i64 x] rfl ?_)
    refine aB 1 rfl<|aD kh10<|aZ ?_
    have e:=Z.trans (if_neg aA)
    exact gT (vs:=[fI r,.int .i64 x]) [] Tryz.results94 rfl Tryz.isAgg171 Tryz.sizeOf171 rfl ⟨(rdA rfl),(rdA rfl),trivial⟩ rfl aC ⟨r,x,by rw [e],rfl,fun _=>⟨hx,ab⟩⟩
theorem NMembers_spec (N:Int) (A:Option Addr) (l:List Arc) (cap:Nat) (Ab:Option Addr) (bs:List Int) (cb:Nat) (Ac:Option Addr) (R:List Row) (cc:Nat) (q c:Int) (w:World) (hr:Ro (Fr w []) w A (l.flatMap cH)) (hl:l.length≤9223372036854775807) (hN:I64 N) (hok:∀ x∈l,eN x) (hn:NestRo (Fr w []) w Ab bs Ac R):
    Meets Tryz.prog 58 [.agg #[.int .i64 N,.slice A l.length cap],.agg #[.slice Ab bs.length cb,.slice Ac R.length cc],.int .i64 q,.int .i64 c] w [] (fun u own' =>∃ (M:List Int) (A' :Option Addr) (c' :Nat) (m' :Seg),u= .tuple #[.slice A' M.length c',.int .i64 (clE N l bs (bJ R) q c)]∧own' =[m']∧Own 3 1 (.slice A' M.length c') M.length (a8 M) m'∧(clE N l bs (bJ R) q c≠0→M=[])∧(clE N l bs (bJ R) q c=0→M=h8 ((bJ R).getD (q.toNat - 1) []) c ((bJ R).getD (q.toNat - 1) []).length)):=by
 refine bG Tryz.func58 rfl Tryz.ntmps58 rfl Owns.nil<|aG fun kh1=>f_S (cZ rfl rfl fun b4=>?_)
 refine f_S (cZ rfl rfl fun b5=>?_);refine aB 2 rfl<|aD kh1<|aG fun kh2=>f_Q (aQ (vs:=[_,_]) Tryz.isAgg24 Tryz.sizeOf24 rfl rfl ⟨(rdA rfl),(rdA rfl),trivial⟩)<|f_Q (aQ (vs:=[_,_]) Tryz.isAgg34 Tryz.sizeOf34 rfl rfl ⟨(rdA rfl),(rdA rfl),trivial⟩)<|aB 2 rfl ?_
 refine f_S (aW Tryz.call94 rfl (fun w_ O=>cellOf_spec N A l cap Ab bs cb Ac R cc q c w_ (hr.up0 O) hl hN hok (hn.up0 O)) ?_);rintro _ _ ⟨r,x,rfl,rfl,ag⟩;dsimp only [aK,aJ];refine aB 3 rfl<|f_S (cX Tryz.zeroValue171 rfl fun b10=>?_)
 refine f_Z (bS Tryz.sizeOf171 rfl rfl rfl rfl cG [fI r,.int .i64 x] rfl ?_);refine aB 1 rfl<|aD kh2<|aV fun kh3=>aG fun kh4=>aB 2 rfl<|aD kh4<|aX rfl (fun c21=>?_) (fun c21=>?_)
 ·refine aG fun al=>aB 3 rfl<|aD al<|aZ<|dA ?_
  exact dB [[]] Tryz.results58 rfl rfl (show Fly.Sub _ [[]] from aC) ⟨[],none,0,[],rfl,rfl,Own.nil _ _,fun _=>rfl,fun h=>absurd h (by simpa using c21)⟩
 ·have J:clE N l bs (bJ R) q c=0:=by simpa using c21
  obtain ⟨hx,aa⟩:=ag J
  have an:=clE_row J
  have ae:=List.mem_of_getElem? aa
  have Z:=hn.rows r ae
  obtain ⟨n,k,j,am,U,ao,ai,ak,ab⟩:=kD J
  have X:=U.right ai
  have F:=qD aa aA
  rw [show q.toNat - 1=k by omega] at F;rw [F] at X ab;have ap:=U.n1
  have aj:=U.many
  have ad:=(d6 X).2
  have ac:=U.len
  rw [eZ] at ac;have Y:=mem_pos X aA ab
  rw [← ak] at Y;refine bZ kh3<|aG fun kh6=>cN fa171_0 rfl<|c7 Tryz.isAgg169 rfl (rdA rfl)<|aB 1 rfl ?_
  refine f_S (aW Tryz.call95 rfl (fun w_ O=>lmem_spec r.1 r.2.1 r.2.2 c w_ (Z.1.up0 O) aA) ?_);rintro _ _ ⟨Am,cm,mm,rfl,rfl,ah⟩;have aq:=pO r.2.1 c r.2.1.length
  dsimp only [aK,aJ];refine aB 2 rfl<|aD kh6<|aZ ?_
  exact dB [mm] Tryz.results58 rfl rfl aC ⟨_,Am,cm,mm,by rw [J],rfl,ah,fun h=>absurd J h,fun _=>by rw [show q.toNat - 1=k by omega,F]⟩
theorem NChildren_spec (N:Int) (A:Option Addr) (l:List Arc) (cap:Nat) (Ab:Option Addr) (bs:List Int) (cb:Nat) (Ac:Option Addr) (R:List Row) (cc:Nat) (q c:Int) (w:World) (hr:Ro (Fr w []) w A (l.flatMap cH)) (hl:l.length≤9223372036854775807) (hN:I64 N) (hok:∀ x∈l,eN x) (hn:NestRo (Fr w []) w Ab bs Ac R):
    Meets Tryz.prog 123 [.agg #[.int .i64 N,.slice A l.length cap],.agg #[.slice Ab bs.length cb,.slice Ac R.length cc],.int .i64 q,.int .i64 c] w [] (fun u own' =>∃ (M:List Int) (A' :Option Addr) (c2:Nat) (m' :Seg),u= .tuple #[.slice A' M.length M.length,.int .i64 (chE N l bs (bJ R) q c)]∧own' =[m']∧Own 3 1 (.slice A' M.length c2) M.length (a8 M) m'∧(chE N l bs (bJ R) q c≠0→M=[])∧(chE N l bs (bJ R) q c=0→M=chL (bJ R) q c)):=by
 refine bG Tryz.func123 rfl Tryz.ntmps123 rfl Owns.nil<|aG fun kh1=>f_S (cZ rfl rfl fun b4=>?_)
 refine f_S (cZ rfl rfl fun b5=>?_);refine aB 2 rfl<|aD kh1<|aG fun kh2=>f_Q (aQ (vs:=[_,_]) Tryz.isAgg24 Tryz.sizeOf24 rfl rfl ⟨(rdA rfl),(rdA rfl),trivial⟩)<|f_Q (aQ (vs:=[_,_]) Tryz.isAgg34 Tryz.sizeOf34 rfl rfl ⟨(rdA rfl),(rdA rfl),trivial⟩)<|aB 2 rfl ?_
 refine f_S (aW Tryz.call94 rfl (fun w_ hp_=>cellOf_spec N A l cap Ab bs cb Ac R cc q c w_ (hr.up0 hp_) hl hN hok (hn.up0 hp_)) ?_);rintro _ _ ⟨r,x,rfl,rfl,al⟩;dsimp only [aK,aJ];refine aB 3 rfl<|f_S (cX Tryz.zeroValue171 rfl fun b10=>?_)
 refine f_Z (bS Tryz.sizeOf171 rfl rfl rfl rfl cG [fI r,.int .i64 x] rfl ?_);refine aB 1 rfl<|aD kh2<|aV fun kh3=>aG fun kh4=>aB 2 rfl<|aD kh4<|aX rfl (fun c25=>?_) (fun c25=>?_)
 ·refine aG fun ap=>aB 3 rfl<|aD ap<|aZ<|dA ?_
  have e:chE N l bs (bJ R) q c=clE N l bs (bJ R) q c:=by unfold chE;rw [if_pos (by simpa using c25)]
  exact dB [[]] Tryz.results123 rfl rfl (show Fly.Sub _ [[]] from aC) ⟨[],none,0,[],by rw [e];rfl,rfl,Own.nil _ _,fun _=>rfl,fun h=>absurd (e.symm.trans h) (by simpa using c25)⟩
 ·have U:clE N l bs (bJ R) q c=0:=by simpa using c25
  obtain ⟨hx,ah⟩:=al U
  have bw:=clE_row U
  have ak:=List.mem_of_getElem? ah
  have ai:=hn.rows r ak
  obtain ⟨n,k,j,bv,J,bt,am,bg,aj⟩:=kD U
  have ab:=J.right am
  have O:=qD ah aA
  rw [show q.toNat - 1=k by omega] at O;rw [O] at ab aj;have bu:=J.n1
  have an:=J.many
  have ba:=(d6 ab).2
  have au:=J.len
  rw [eZ] at au;have ac:=mem_pos ab aA aj
  rw [← bg] at ac;refine bZ kh3<|aV fun kh6=>aG fun kh7=>cN fa171_1 rfl<|c7 Tryz.isAgg3 rfl (rdA rfl)<|aB 1 rfl<|aD kh7<|aX rfl (fun c29=>?_) (fun c29=>?_)
  ·refine aG fun bh=>aB 2 rfl<|aD bh<|aZ<|dA ?_
   have e:chE N l bs (bJ R) q c=111:=by unfold chE;rw [if_neg (by rw [U];simp),if_pos aA]
   exact dB [[]] Tryz.results123 rfl rfl (show Fly.Sub _ [[]] from aC) ⟨[],none,0,[],by rw [e];rfl,rfl,Own.nil _ _,fun _=>rfl,fun h=>absurd (e.symm.trans h) (by decide)⟩
  ·have bq:1≤k:=aA
   have F:k - 1<R.length:=aA
   have ae:=hn.rows _ (List.getElem_mem F)
   have X:=J.right (k:=k - 1) aA
   rw [iV F] at X;have ay:=(d6 X).2
   refine bZ kh6<|aG fun kh9=>f_Q (aQ (vs:=[_,_]) Tryz.isAgg34 Tryz.sizeOf34 rfl rfl ⟨(rdA rfl),(rdA rfl),trivial⟩)<|aB 1 rfl<|f_Q (jK rfl rfl) ?_
   refine f_S (aW Tryz.call152 rfl (fun w_ hp_ => (by have h := at_spec Ab bs cb Ac R cc (k - 1) w_ (hn.up0 hp_) F; rw [show ((((k - 1 : Nat) : Int)) + 1) = q - 1 by omega] at h; exact h)) ?_);rintro _ _ ⟨rfl, rfl⟩;dsimp only [aK, aJ];refine f_S (cX Tryz.zeroValue171 rfl fun ax => ?_);refine f_Z (bS Tryz.sizeOf171 rfl rfl rfl rfl cG [fI (R[k - 1]'F), .int .i64 (q - 1)] rfl ?_);refine aD kh9 <| aG fun kh10 => aB 1 rfl <| aD kh10 <| aV fun kh11 => aG fun ad => cN fa171_0 rfl <| c7 Tryz.isAgg169 rfl (rdA rfl) <| aB 1 rfl ?_
   refine f_S (aW Tryz.call95 rfl (fun w_ hp_=>lmem_spec r.1 r.2.1 r.2.2 c w_ (ai.1.up0 hp_) aA) ?_);rintro _ _ ⟨Am,cm,mm,rfl,rfl,az⟩;have bp:=pO r.2.1 c r.2.1.length
   dsimp only [aK,aJ];refine dY bU rfl<|aB 1 rfl<|aD ad<|aS ?_
   refine dF (α := Nat × Value × Seg) [12, 37, 38] (fun ⟨i, ov, om⟩ => [(39, .int .i64 (i : Int)), (13, ov)]) (fun ⟨i, ov, om⟩ => [om, mm, [(ax, blk [fI (R[k - 1]'F), .int .i64 (q - 1)] 171)]]) (fun ⟨i, ov, om⟩ => i ≤ (h8 r.2.1 c r.2.1.length).length ∧ Own 3 1 ov (lowL (R[k - 1]'F).2.1 ((h8 r.2.1 c r.2.1.length).take i)).length (a8 (lowL (R[k - 1]'F).2.1 ((h8 r.2.1 c r.2.1.length).take i))) om) (fun ⟨i, ov, om⟩ => (h8 r.2.1 c r.2.1.length).length - i) (0, .slice none 0 0, []) ?_ ?_ ?_ ?_
   ·exact aF
   ·exact aC
   ·exact ⟨Nat.zero_le _,Own.nil _ _⟩
   ·rintro ⟨i, ov, om⟩ ⟨bB, hO⟩;have aw := lowL_len (R[k - 1]'F).2.1 ((h8 r.2.1 c r.2.1.length).take i)
    rw [List.length_take] at aw;obtain ⟨Ao,co,rfl,bC⟩:=hO.val
    refine aG fun kh13=>aB 1 rfl<|aD kh13<|aV fun kh14=>aX rfl (fun ar=>?_) (fun ar=>?_)
    ·have hi:i<(h8 r.2.1 c r.2.1.length).length:=aA
     obtain ⟨bM,bj,rfl,rfl⟩:=az.at_ aA
     obtain ⟨v,hv,bk,br⟩:=memTo_mem.1 (List.getElem_mem hi)
     obtain ⟨bl, ol, bc, be, ao⟩ := ae.1 (fun e => by have := a7 (R[k - 1]'F).2.1; rw [e] at this; simp at this; omega)
     have Z : v < (R[k - 1]'F).2.1.length := aA
     have aq := lowL_next (B := (R[k - 1]'F).2.1) hi
     have a1 : (R[k - 1]'F).2.1.getD (h8 r.2.1 c r.2.1.length)[i].toNat 0 = (R[k - 1]'F).2.1[v] := by rw [hv, Int.toNat_natCast]; simp [List.getD_eq_getElem?_getD, Z]
     refine bZ kh14<|aV fun kh15=>aS<|aG fun kh16=>f_Q (aM bU rfl rfl (i))<|f_Q (aH Tryz.isAgg3 rfl (rdA (v:= .int .i64 (v:Int)) (d7 (by rw [d9 hi,hv])))) ?_
     refine aB 1 rfl <| aD kh16 <| aI <| aB 1 rfl <| cN fa171_0 rfl <| f_Q (aH Tryz.isAgg169 rfl (v := .slice (some ⟨bl, ol, none⟩) (R[k - 1]'F).2.1.length (R[k - 1]'F).2.2) (rdA (by rw [← bc]; rfl))) ?_
     refine aB 1 rfl<|f_Q (aM sl169 rfl rfl (ol+v))<|f_Q (aH Tryz.isAgg3 rfl (eC (enc:=(.int .i64 ·)) be ao Z))<|f_S (bX eO aA rfl rfl rfl fun b49=>?_)
     refine f_S (dJ eO rfl rfl hO (ys := [.int .i64 (R[k - 1]'F).2.1[v]]) ⟨(rdA rfl), trivial⟩ rfl rfl aA aA fun v50 a2 bf => ?_);refine aB 1 rfl <| aY <| dI <| bP kh15 <| aI <| f_Q (bF rfl rfl) <| aB 1 rfl <| aY ?_
     refine cV (a6 (i+1,v50,a2) (by first|omega|(dsimp only;omega)|(simp;omega)) ⟨aA,by rw [aq,a1,List.length_append,eL];exact bf⟩ ?_ ?_ ?_)
     ·exact aF
     ·exact aF
     ·exact aC
    ·obtain rfl:i=(h8 r.2.1 c r.2.1.length).length:=aA
     rw [List.take_length] at hO;obtain ⟨LO, Y⟩ : ∃ LO, lowL (R[k - 1]'F).2.1 (h8 r.2.1 c r.2.1.length) = LO := ⟨_, rfl⟩
     have bi:LO.length=(h8 r.2.1 c r.2.1.length).length:=by rw [← Y,lowL_len]
     rw [Y] at hO;refine f_reC 13 rfl (v:= .slice Ao LO.length co) (by rw [List.take_length,Y]) ?_;refine cS<|cU<|cU<|eH<|bP kh11<|aG fun kh17=>aB 1 rfl ?_
     refine f_S (d5 [om] _ Tryz.call22 rfl (by repeat (first|exact Sub.refl|refine aL ?_)) (fun w_ hp_=>lZ Ao co LO om w_ hO aA hp_.owns) ?_);rintro _ _ ⟨rfl,m2,rfl,av⟩;dsimp only [aK,aJ];refine aD kh17<|aG fun kh18=>aB 1 rfl ?_
     refine f_S (d5 [m2] _ Tryz.call24 rfl (by repeat (first|exact Sub.refl|refine aL ?_)) (fun w_ hp_=>(by have h:=nB Ao co (iU LO) m2 w_ (by rw [fP];exact av) (by rw [fP];omega) hp_.owns;rw [fP] at h;exact h)) ?_);rintro v55 _ ⟨m3,rfl,aa⟩;obtain ⟨A3,c3,rfl,ag⟩:=aa.val
     dsimp only [aK,aJ];refine f_S (aW Tryz.call159 rfl (fun w_ hp_=>Clip_spec A3 (cpt (iU LO)).length c3 w_ ag.1 ag.2 (kX aa)) ?_);rintro _ _ ⟨rfl,rfl⟩;dsimp only [aK,aJ];refine aB 2 rfl<|aD kh18<|aZ ?_
     have e:chE N l bs (bJ R) q c=0:=by unfold chE;rw [if_neg (by rw [U];simp),if_neg aA]
     exact dB [m3] Tryz.results123 rfl rfl aC ⟨_,A3,c3,m3,by rw [e],rfl,aa,fun h=>absurd e h,fun _=>by unfold chL;rw [show q.toNat - 1=k by omega,show q.toNat - 2=k - 1 by omega,O,iV F,Y]⟩
theorem Ro.held {w w' :World} {A:Option Addr} {cs:List Value} (h:Ro (Fr w []) w A cs) (hs:∀ k,Fr w [] k→w'.heap[k]? =w.heap[k]?):Ro (Fr w' []) w' A cs:=fun J=>by
 obtain ⟨b,off,rfl,O,hc⟩:=h J
 have F:=hs b O
 refine ⟨b,off,rfl,⟨?_,aO⟩,hc.same F⟩
 rcases Nat.lt_or_ge b w'.heap.size with h' |h'
 ·exact h'
 ·rw [Array.getElem?_eq_none h',Array.getElem?_eq_getElem O.1] at F;cases F
def inP (L:List Int) (c:Int) (a:Arc):Bool:=decide (L.getD a.src.toNat 0=c)&&decide (L.getD a.dst.toNat 0=c)
def unP (L:List Int) (a:Arc):Bool:=decide (L.getD a.src.toNat 0≠L.getD a.dst.toNat 0)
def btP (L B:List Int) (c:Int) (a:Arc):Bool:=inP L c a&&unP B a
def bwE (N:Int) (l:List Arc) (bs:List Int) (L:List (List Int)) (q c:Int):Int:=if clE N l bs L q c≠0 then clE N l bs L q c else if q=1 then 111 else 0
theorem k4 {α:Type} (p:α→Bool) (l:List α):(gB p l).length≤l.length:=by
 unfold gB;rw [List.length_map];exact Nat.le_trans (List.length_filter_le _ _) aO
theorem eJ {L:List Int} {i:Nat} (h:i<L.length):L.getD i 0=L[i]:=by simp [List.getD_eq_getElem?_getD,h]
theorem cut_spec (A:Option Addr) (len cap:Nat) (w:World) (h:len≤cap) (hm:cap≤9223372036854775807) (hA:A=none→len=0):
    Meets Tryz.prog 23 [.slice A len cap] w [] (fun u m=>u= .slice A len len∧m=[]):=by
 refine bG Tryz.func23 rfl Tryz.ntmps23 rfl Owns.nil<|aG fun kh1=>aB 1 rfl<|aD kh1<|aG fun kh2=>aB 2 rfl<|dY bU rfl<|aB 1 rfl<|dY bU rfl<|f_Q (f7 bU rfl rfl rfl rfl (fun _=>rfl) 0 len len (.inl ⟨rfl,rfl⟩) (.inr ⟨_,_,rfl,aA⟩) (.inr ⟨_,_,rfl,aA⟩) ⟨aA,aA,aA⟩ (.slice A len len) (by rw [Nat.sub_zero];congr 1;split;rfl;cases A with|none=>rfl|some x=>obtain ⟨p,q,r⟩:=x;cases r<;>simp [Addr.add])) ?_
 refine aB 1 rfl<|aD kh2<|aZ ?_
 exact bO [] Tryz.results23 rfl aP ⟨rfl,rfl⟩
theorem qZ (N:Int) (A:Option Addr) (l:List Arc) (cap:Nat) (Ab:Option Addr) (bs:List Int) (cb:Nat) (Z:Option Addr) (R:List Row) (cc:Nat) (q c:Int) (w:World) (hr:Ro (Fr w []) w A (l.flatMap cH)) (hl:l.length≤9223372036854775807) (hN:I64 N) (hok:∀ x∈l,eN x) (hn:NestRo (Fr w []) w Ab bs Z R):
    Meets Tryz.prog 21 [.agg #[.int .i64 N,.slice A l.length cap],.agg #[.slice Ab bs.length cb,.slice Z R.length cc],.int .i64 q,.int .i64 c] w [] (fun u m=>∃ r:Row,u= .tuple #[fI r,.int .i64 (clE N l bs (bJ R) q c)]∧m=[]∧(clE N l bs (bJ R) q c≠0→r=(none,[],0))∧(clE N l bs (bJ R) q c=0→R[(q - 1).toNat]? =some r)):=by
 refine bG Tryz.func21 rfl Tryz.ntmps21 rfl Owns.nil<|aG fun kh1=>f_S (cZ rfl rfl fun b4=>?_)
 refine f_S (cZ rfl rfl fun b5=>?_);refine aB 2 rfl<|aD kh1<|aV fun kh2=>aG fun kh3=>f_Q (aQ (vs:=[_,_]) Tryz.isAgg24 Tryz.sizeOf24 rfl rfl ⟨(rdA rfl),(rdA rfl),trivial⟩)<|f_Q (aQ (vs:=[_,_]) Tryz.isAgg34 Tryz.sizeOf34 rfl rfl ⟨(rdA rfl),(rdA rfl),trivial⟩)<|aB 2 rfl ?_
 refine f_S (aW Tryz.call58 rfl (fun w_ O=>NMembers_spec N A l cap Ab bs cb Z R cc q c w_ (hr.up0 O) hl hN hok (hn.up0 O)) ?_);rintro _ _ ⟨M_,AM,cM,mM,rfl,rfl,ak,al,ag⟩;dsimp only [aK,aJ];refine aB 5 rfl<|aD kh3<|aG fun kh4=>aB 2 rfl<|aD kh4<|aX rfl (fun c21=>?_) (fun c21=>?_)
 ·refine aG fun ac=>aB 3 rfl<|aD ac<|aZ<|dA ?_
  exact dB [] Tryz.results21 rfl rfl aP ⟨(none,[],0),rfl,rfl,fun _=>rfl,fun h=>absurd h (by simpa using c21)⟩
 ·have F:clE N l bs (bJ R) q c=0:=by simpa using c21
  obtain ⟨n,k,j,ae,U,ai,ah,aj,am⟩:=kD F
  have X:=U.len
  rw [eZ] at X;have Y:=U.many
  have J:k<R.length:=aA
  obtain ⟨b0,o0,aa,ab,ad⟩:=hn.c (gX J)
  refine bZ kh2<|aG fun kh6=>cN jF rfl<|f_Q (aH Tryz.isAgg32 rfl (v:= .slice (some ⟨b0,o0,none⟩) R.length cc) (rdA (by rw [← aa];rfl))) ?_
  refine aB 1 rfl<|f_Q (j5 rfl rfl _ (Eq.trans (d8 aA) (show _=(k:Int) by omega))) ?_
  refine f_Q (aM g5 rfl rfl (o0+k))<|f_Q (aH Tryz.isAgg25 rfl (eC (enc:=fI) ab ad J))<|aB 2 rfl<|aD kh6<|aZ ?_
  exact dB [] Tryz.results21 rfl rfl aP ⟨_,by rw [F],rfl,fun h=>absurd F h,fun _=>by rw [show (q - 1).toNat=k by omega];exact List.getElem?_eq_getElem J⟩
theorem chosen_spec (N:Int) (A:Option Addr) (l:List Arc) (cap:Nat) (p:Arc→Bool) (fi:FuncId) (J:List Value) (w:World) (hr:Ro (Fr w []) w A (l.flatMap cH)) (hl:l.length≤8192) (ae:∀ args w,(callFunc fi args).run Tryz.prog w= .ok (.enter fi args) w)
    (ad:∀ w',(∀ k,Fr w [] k→w'.heap[k]? =w.heap[k]?)→∀ i (hi:i<l.length),Meets Tryz.prog fi ([.agg (cH l[i]).toArray]++J) w' [] (fun u m=>u= .bool (p l[i])∧m=[])):
    Meets Tryz.prog 154 [.agg #[.int .i64 N,.slice A l.length cap],.func (.func fi) #[] J.toArray] w [] (fun u own' =>∃ A' c' m',u= .slice A' (gB p l).length (gB p l).length∧own' =[m']∧Own 3 1 (.slice A' (gB p l).length c') (gB p l).length (a8 (gB p l)) m'):=by
 refine bG Tryz.func154 rfl Tryz.ntmps154 rfl Owns.nil<|aG fun kh1=>f_S (cZ rfl rfl fun b2=>?_)
 refine aB 1 rfl<|aD kh1<|aG fun kh2=>aB 1 rfl<|aD kh2<|aV fun kh3=>aG fun ac=>cN gM rfl<|c7 Tryz.isAgg22 rfl (rdA rfl)<|dY j7 rfl ?_
 refine aB 1 rfl<|aD ac<|aS ?_
 refine dF (α:=Nat×Value×Seg) [1,9,10] (fun ⟨k,ov,F⟩=>[(11,.int .i64 (k:Int)),(5,ov)]) (fun ⟨k,ov,F⟩=>[F]) (fun ⟨k,ov,F⟩=>k≤l.length∧Own 3 1 ov (gB p (l.take k)).length (a8 (gB p (l.take k))) F) (fun ⟨k,ov,F⟩=>l.length - k) (0,.slice none 0 0,[]) ?_ ?_ ?_ ?_
 ·exact aF
 ·exact aC
 ·exact ⟨Nat.zero_le _,Own.nil _ _⟩
 ·rintro ⟨k,ov,F⟩ ⟨ah,U⟩;have Y:=k4 p (l.take k)
  rw [List.length_take] at Y;obtain ⟨Ao,Z,rfl,O⟩:=U.val
  refine aG fun kh5=>aB 1 rfl<|aD kh5<|aV fun kh6=>aX rfl (fun ag=>?_) (fun ag=>?_)
  ·have hk:k<l.length:=aA
   obtain ⟨bl,off,rfl,hS,hc⟩:=hr (fH cH dO aA hk)
   refine bZ kh6<|aV fun kh7=>aS<|aG fun kh8=>aB 1 rfl<|f_Q (aM j7 rfl rfl (off+k*3))<|f_Q (aQ (vs:=cH l[k]) Tryz.isAgg69 Tryz.sizeOf69 rfl rfl (gV dO hS hc hk))<|f_S (cX Tryz.zeroValue69 rfl fun b7=>?_)
   refine aB 1 rfl<|f_Z (bS Tryz.sizeOf69 rfl rfl rfl rfl cG (cH l[k]) rfl ?_)
   refine aD kh8<|aG fun kh9=>aB 1 rfl<|f_Q (aQ (vs:=[_,_,_]) Tryz.isAgg69 Tryz.sizeOf69 rfl rfl ⟨(rdA rfl),(rdA rfl),(rdA rfl),trivial⟩) ?_
   refine f_S (jE [] _ ae rfl rfl Sub.refl (fun w_ X=>(by have h:=ad w_ (fun k hk=>X.same k hk) k hk;exact h)) ?_);rintro _ _ ⟨rfl,rfl⟩;dsimp only [aK,aJ];refine aD kh9<|e8 rfl (fun c18=>?_) (fun c18=>?_)
   ·refine aI<|aB 2 rfl<|f_S (bX eO aA rfl rfl rfl fun b21=>?_)
    refine f_S (dJ eO rfl rfl U (ys:=[.int .i64 (k:Int)]) ⟨(rdA rfl),trivial⟩ rfl rfl aA aA fun v22 aa ab=>?_);refine aB 1 rfl<|aY<|dI<|bP kh7<|aI<|f_Q (bF rfl rfl)<|aB 1 rfl<|aY ?_
    refine cV (a6 (k+1,v22,aa) (by first|omega|(dsimp only;omega)|(simp;omega)) ⟨aA,by rw [nU hk c18,List.length_append,eL];exact ab⟩ ?_ ?_ ?_)
    ·exact aF
    ·exact aF
    ·exact aC
   ·refine dZ<|dI<|bP kh7<|aI<|f_Q (bF rfl rfl)<|aB 1 rfl<|aY ?_
    refine cV (a6 (k+1,.slice Ao (gB p (l.take k)).length Z,F) (by first|omega|(dsimp only;omega)|(simp;omega)) ⟨aA,by rw [lU hk (by simpa using c18)];exact U⟩ ?_ ?_ ?_)
    ·exact aF
    ·exact aF
    ·exact aC
  ·obtain rfl:k=l.length:=aA
   rw [List.take_length] at U O Y;refine f_reC 5 rfl (v:= .slice Ao (gB p l).length Z) (by rw [List.take_length]) ?_;refine cS<|cU<|cU<|eH<|bP kh3<|aG fun kh10=>aB 1 rfl ?_
   refine f_S (aW Tryz.call23 rfl (fun w_ X=>cut_spec Ao (gB p l).length Z w_ O.1 O.2 (kX U)) ?_);rintro _ _ ⟨rfl,rfl⟩;dsimp only [aK,aJ];refine aB 1 rfl<|aD kh10<|aZ ?_
   exact bO [F] Tryz.results154 rfl aC ⟨Ao,Z,F,rfl,rfl,U⟩
theorem Inner1_spec (a:Arc) (b1 b2:Nat) (B:Option Addr) (L:List Int) (cb:Nat) (c:Int) (w:World) (h1:Ro (Fr w []) w (some ⟨b1,0,none⟩) [.slice B L.length cb]) (h2:Ro (Fr w []) w (some ⟨b2,0,none⟩) [.int .i64 c]) (hL:Ro (Fr w []) w B (a8 L)) (hs:0≤a.src∧a.src<(L.length:Int)) (hd:0≤a.dst∧a.dst<(L.length:Int)):
    Meets Tryz.prog 155 ([.agg (cH a).toArray]++[.pointer (some ⟨b1,0,none⟩),.pointer (some ⟨b2,0,none⟩)]) w [] (fun u m=>u= .bool (inP L c a)∧m=[]):=by
 have F:a.src.toNat<L.length:=aA
 have J:a.dst.toNat<L.length:=aA
 obtain ⟨ac,ag,ae,Z,X⟩:=h1 aO
 obtain ⟨rfl,rfl⟩:b1=ac∧0=ag:=by cases ae;exact ⟨rfl,rfl⟩
 obtain ⟨ad,ah,ab,U,aa⟩:=h2 aO
 obtain ⟨rfl,rfl⟩:b2=ad∧0=ah:=by cases ab;exact ⟨rfl,rfl⟩
 obtain ⟨br,or,rfl,Y,O⟩:=hL (fun e=>by have:=a7 L;rw [e] at this;simp at this;omega)
 refine bG Tryz.func155 rfl Tryz.ntmps155 rfl Owns.nil<|aG fun kh1=>f_S (cZ rfl rfl fun b3=>?_)
 refine aB 1 rfl<|aD kh1<|aV fun kh2=>gG 16 rfl aU<|dG (aH Tryz.isAgg25 rfl (rdS Z (X 0 _ rfl)))<|dG (aT gC rfl)<|gH Tryz.isAgg3 rfl (rdA rfl)<|dG (aM bU rfl rfl (or+a.src.toNat))<|dG (aH Tryz.isAgg3 rfl (eC (enc:=(.int .i64 ·)) Y O F))<|dG (aH Tryz.isAgg3 rfl (rdS U (aa 0 _ rfl))) ?_
 refine dN 2 rfl<|f_splitS 12 rfl (fun g12=>?_) (fun g12=>?_)
 ·refine dR rfl rfl rfl rfl rfl (aH Tryz.isAgg25 rfl (rdS Z (X 0 _ rfl)))<|dR rfl rfl rfl rfl rfl (aT fT rfl)<|dR rfl rfl rfl rfl rfl (aH Tryz.isAgg3 rfl (rdA rfl))<|dR rfl rfl rfl rfl rfl (aM bU rfl rfl (or+a.dst.toNat))<|dR rfl rfl rfl rfl rfl (aH Tryz.isAgg3 rfl (eC (enc:=(.int .i64 ·)) Y O J))<|dR rfl rfl rfl rfl rfl (aH Tryz.isAgg3 rfl (rdS U (aa 0 _ rfl)))<|dN 2 rfl<|eK (i3 ?_)
  refine aB 1 rfl<|aD kh2<|aZ ?_
  exact bO [] Tryz.results155 rfl aP ⟨by unfold inP;rw [eJ F,eJ J,decide_eq_true g12];rfl,rfl⟩
 ·refine dN 8 rfl<|eK (i3 ?_)
  refine aB 1 rfl<|aD kh2<|aZ ?_
  exact bO [] Tryz.results155 rfl aP ⟨by unfold inP;rw [eJ F,eJ J,decide_eq_false g12];rfl,rfl⟩
theorem CInner_spec (N:Int) (A:Option Addr) (l:List Arc) (cap:Nat) (Ab:Option Addr) (bs:List Int) (cb:Nat) (Ac:Option Addr) (R:List Row) (cc:Nat) (q c:Int) (w:World) (hr:Ro (Fr w []) w A (l.flatMap cH)) (hl:l.length≤9223372036854775807) (hN:I64 N) (hok:∀ x∈l,eN x) (hn:NestRo (Fr w []) w Ab bs Ac R):
    Meets Tryz.prog 119 [.agg #[.int .i64 N,.slice A l.length cap],.agg #[.slice Ab bs.length cb,.slice Ac R.length cc],.int .i64 q,.int .i64 c] w [] (fun u own' =>∃ (M:List Int) (A' :Option Addr) (c2:Nat) (m' :Seg),u= .tuple #[.slice A' M.length M.length,.int .i64 (clE N l bs (bJ R) q c)]∧own' =[m']∧Own 3 1 (.slice A' M.length c2) M.length (a8 M) m'∧(clE N l bs (bJ R) q c≠0→M=[])∧(clE N l bs (bJ R) q c=0→M=gB (inP ((bJ R).getD (q.toNat - 1) []) c) l)):=by
 refine bG Tryz.func119 rfl Tryz.ntmps119 rfl Owns.nil<|aG fun kh1=>f_S (cZ rfl rfl fun b4=>?_)
 refine f_S (cZ rfl rfl fun b5=>?_);refine f_S (cZ rfl rfl fun b7=>?_);refine aB 2 rfl<|aD kh1<|aG fun kh2=>f_Q (aQ (vs:=[_,_]) Tryz.isAgg24 Tryz.sizeOf24 rfl rfl ⟨(rdA rfl),(rdA rfl),trivial⟩)<|f_Q (aQ (vs:=[_,_]) Tryz.isAgg34 Tryz.sizeOf34 rfl rfl ⟨(rdA rfl),(rdA rfl),trivial⟩)<|aB 1 rfl<|c7 Tryz.isAgg3 rfl (rdA rfl) ?_
 refine f_S (aW Tryz.call21 rfl (fun w_ F=>qZ N A l cap Ab bs cb Ac R cc q c w_ (hr.up0 F) hl hN hok (hn.up0 F)) ?_);rintro _ _ ⟨r,rfl,rfl,ah,ad⟩;dsimp only [aK,aJ];refine aB 3 rfl<|f_S (cX Tryz.zeroValue25 rfl fun b10=>?_)
 refine f_Z (bQ Tryz.sizeOf25 rfl rfl rfl rfl cG [fI r] rfl ?_);refine aB 1 rfl<|aD kh2<|aV fun kh3=>aG fun kh4=>aB 2 rfl<|aD kh4<|aX rfl (fun c21=>?_) (fun c21=>?_)
 ·refine aG fun ac=>aB 3 rfl<|aD ac<|aZ<|dA ?_
  have e:clE N l bs (bJ R) q c=clE N l bs (bJ R) q c:=rfl
  exact dB [[]] Tryz.results119 rfl rfl (show Fly.Sub _ [[]] from aC) ⟨[],none,0,[],by rw [e];rfl,rfl,Own.nil _ _,fun _=>rfl,fun h=>absurd (e.symm.trans h) (by simpa using c21)⟩
 ·have U:clE N l bs (bJ R) q c=0:=by simpa using c21
  obtain ⟨n,k,j,ag,O,aj,ai,ak,an⟩:=kD U
  have Z:=O.len
  rw [eZ] at Z;have ab:=O.many
  obtain ⟨al,am,hlen,X⟩:=cF O.g
  have Y:=ad U
  have J:=qD Y aA
  rw [show q.toNat - 1=k by omega] at J;have ae:=O.rowlen (k:=k) aA
  rw [J] at ae;have aa:=hn.rows r (List.mem_of_getElem? Y)
  refine bZ kh3<|aG fun kh6=>f_Q (aQ (vs:=[_,_]) Tryz.isAgg24 Tryz.sizeOf24 rfl rfl ⟨(rdA rfl),(rdA rfl),trivial⟩)<|f_Q (mH rfl rfl) ?_
  refine f_S (aW Tryz.call154 rfl (fun w_ F=>chosen_spec N A l cap (inP r.2.1 c) 155 [.pointer (some ⟨b10,0,none⟩),.pointer (some ⟨b7,0,none⟩)] w_ (hr.up0 F) hlen Tryz.call155 (fun w' hs i hi=>Inner1_spec l[i] b10 b7 r.1 r.2.1 r.2.2 c w' (heldRo F hs) (heldRo F hs) (Ro.held (aa.1.up0 F) hs) (by have:=X i hi;omega) (by have:=X i hi;omega))) ?_);rintro _ _ ⟨Ao,co,mo,rfl,rfl,hO⟩;dsimp only [aK,aJ];refine aB 2 rfl<|aD kh6<|aZ ?_
  have e:=U
  exact dB [mo] Tryz.results119 rfl rfl aC ⟨_,Ao,co,mo,by rw [e],rfl,hO,fun h=>absurd e h,fun _=>by rw [show q.toNat - 1=k by omega,J]⟩
theorem Between1_spec (a:Arc) (b1 b2 b3:Nat) (B:Option Addr) (L:List Int) (cb:Nat) (B2:Option Addr) (L2:List Int) (ap:Nat) (c:Int) (w:World) (h1:Ro (Fr w []) w (some ⟨b1,0,none⟩) [.slice B L.length cb]) (h2:Ro (Fr w []) w (some ⟨b2,0,none⟩) [.int .i64 c]) (h3:Ro (Fr w []) w (some ⟨b3,0,none⟩) [.slice B2 L2.length ap]) (hL:Ro (Fr w []) w B (a8 L)) (am:Ro (Fr w []) w B2 (a8 L2)) (av:L2.length=L.length) (hs:0≤a.src∧a.src<(L.length:Int)) (hd:0≤a.dst∧a.dst<(L.length:Int)):
    Meets Tryz.prog 158 ([.agg (cH a).toArray]++[.pointer (some ⟨b1,0,none⟩),.pointer (some ⟨b2,0,none⟩),.pointer (some ⟨b3,0,none⟩)]) w [] (fun u m=>u= .bool (btP L L2 c a)∧m=[]):=by
 have O:a.src.toNat<L.length:=aA
 have U:a.dst.toNat<L.length:=aA
 have F:a.src.toNat<L2.length:=aA
 have J:a.dst.toNat<L2.length:=aA
 obtain ⟨aj,ao,an,ag,ad⟩:=h1 aO
 obtain ⟨rfl,rfl⟩:b1=aj∧0=ao:=by cases an;exact ⟨rfl,rfl⟩
 obtain ⟨ak,ar,ai,hS2,hc2⟩:=h2 aO
 obtain ⟨rfl,rfl⟩:b2=ak∧0=ar:=by cases ai;exact ⟨rfl,rfl⟩
 obtain ⟨ah,al,aq,ab,ac⟩:=h3 aO
 obtain ⟨rfl,rfl⟩:b3=ah∧0=al:=by cases aq;exact ⟨rfl,rfl⟩
 obtain ⟨br,or,rfl,ae,Z⟩:=hL (fun e=>by have:=a7 L;rw [e] at this;simp at this;omega)
 obtain ⟨au,aa,rfl,X,Y⟩:=am (fun e=>by have:=a7 L2;rw [e] at this;simp at this;omega)
 refine bG Tryz.func158 rfl Tryz.ntmps158 rfl Owns.nil<|aG fun kh1=>f_S (cZ rfl rfl fun b4=>?_)
 refine aB 1 rfl<|aD kh1<|aV fun kh2=>gG 29 rfl aU<|dG (aH Tryz.isAgg25 rfl (rdS ag (ad 0 _ rfl)))<|dG (aT gC rfl)<|gH Tryz.isAgg3 rfl (rdA rfl)<|dG (aM bU rfl rfl (or+a.src.toNat))<|dG (aH Tryz.isAgg3 rfl (eC (enc:=(.int .i64 ·)) ae Z O))<|dG (aH Tryz.isAgg3 rfl (rdS hS2 (hc2 0 _ rfl))) ?_
 refine dN 2 rfl<|f_splitS 13 rfl (fun g13=>?_) (fun g13=>?_)
 ·refine dR rfl rfl rfl rfl rfl (aH Tryz.isAgg25 rfl (rdS ag (ad 0 _ rfl)))<|dR rfl rfl rfl rfl rfl (aT fT rfl)<|dR rfl rfl rfl rfl rfl (aH Tryz.isAgg3 rfl (rdA rfl))<|dR rfl rfl rfl rfl rfl (aM bU rfl rfl (or+a.dst.toNat))<|dR rfl rfl rfl rfl rfl (aH Tryz.isAgg3 rfl (eC (enc:=(.int .i64 ·)) ae Z U))<|dR rfl rfl rfl rfl rfl (aH Tryz.isAgg3 rfl (rdS hS2 (hc2 0 _ rfl)))<|dN 3 rfl<|f_splitS 22 rfl (fun g22=>?_) (fun g22=>?_)
  ·refine dR rfl rfl rfl rfl rfl (aH Tryz.isAgg25 rfl (rdS ab (ac 0 _ rfl)))<|dR rfl rfl rfl rfl rfl (aT gC rfl)<|dR rfl rfl rfl rfl rfl (aH Tryz.isAgg3 rfl (rdA rfl))<|dR rfl rfl rfl rfl rfl (aM bU rfl rfl (aa+a.src.toNat))<|dR rfl rfl rfl rfl rfl (aH Tryz.isAgg3 rfl (eC (enc:=(.int .i64 ·)) X Y F))<|dR rfl rfl rfl rfl rfl (aH Tryz.isAgg25 rfl (rdS ab (ac 0 _ rfl)))<|dR rfl rfl rfl rfl rfl (aT fT rfl)<|dR rfl rfl rfl rfl rfl (aH Tryz.isAgg3 rfl (rdA rfl))<|dR rfl rfl rfl rfl rfl (aM bU rfl rfl (aa+a.dst.toNat))<|dR rfl rfl rfl rfl rfl (aH Tryz.isAgg3 rfl (eC (enc:=(.int .i64 ·)) X Y J)) ?_;refine dN 2 rfl<|eK (i3 ?_)
   refine aB 1 rfl<|aD kh2<|aZ ?_
   exact bO [] Tryz.results158 rfl aP ⟨by unfold btP inP unP;rw [eJ O,eJ U,eJ F,eJ J,decide_eq_true g13,decide_eq_true g22];rfl,rfl⟩
  ·refine dN 12 rfl<|eK (i3 ?_)
   refine aB 1 rfl<|aD kh2<|aZ ?_
   exact bO [] Tryz.results158 rfl aP ⟨by unfold btP inP unP;rw [eJ O,eJ U,eJ F,eJ J,decide_eq_true g13,decide_eq_false g22];rfl,rfl⟩
 ·refine dN 21 rfl<|eK (i3 ?_)
  refine aB 1 rfl<|aD kh2<|aZ ?_
  exact bO [] Tryz.results158 rfl aP ⟨by unfold btP inP unP;rw [eJ O,eJ U,eJ F,eJ J,decide_eq_false g13];rfl,rfl⟩
theorem CBetween_spec (N:Int) (A:Option Addr) (l:List Arc) (cap:Nat) (Ab:Option Addr) (bs:List Int) (cb:Nat) (Ac:Option Addr) (R:List Row) (cc:Nat) (q c:Int) (w:World) (hr:Ro (Fr w []) w A (l.flatMap cH)) (hl:l.length≤9223372036854775807) (hN:I64 N) (hok:∀ x∈l,eN x) (hn:NestRo (Fr w []) w Ab bs Ac R):
    Meets Tryz.prog 122 [.agg #[.int .i64 N,.slice A l.length cap],.agg #[.slice Ab bs.length cb,.slice Ac R.length cc],.int .i64 q,.int .i64 c] w [] (fun u own' =>∃ (M:List Int) (A' :Option Addr) (c2:Nat) (m' :Seg),u= .tuple #[.slice A' M.length M.length,.int .i64 (bwE N l bs (bJ R) q c)]∧own' =[m']∧Own 3 1 (.slice A' M.length c2) M.length (a8 M) m'∧(bwE N l bs (bJ R) q c≠0→M=[])∧(bwE N l bs (bJ R) q c=0→M=gB (btP ((bJ R).getD (q.toNat - 1) []) ((bJ R).getD (q.toNat - 2) []) c) l)):=by
 refine bG Tryz.func122 rfl Tryz.ntmps122 rfl Owns.nil<|aG fun kh1=>f_S (cZ rfl rfl fun b4=>?_)
 refine f_S (cZ rfl rfl fun b5=>?_);refine f_S (cZ rfl rfl fun b7=>?_);refine aB 2 rfl<|aD kh1<|aG fun kh2=>f_Q (aQ (vs:=[_,_]) Tryz.isAgg24 Tryz.sizeOf24 rfl rfl ⟨(rdA rfl),(rdA rfl),trivial⟩)<|f_Q (aQ (vs:=[_,_]) Tryz.isAgg34 Tryz.sizeOf34 rfl rfl ⟨(rdA rfl),(rdA rfl),trivial⟩)<|aB 1 rfl<|c7 Tryz.isAgg3 rfl (rdA rfl) ?_
 refine f_S (aW Tryz.call21 rfl (fun w_ F=>qZ N A l cap Ab bs cb Ac R cc q c w_ (hr.up0 F) hl hN hok (hn.up0 F)) ?_);rintro _ _ ⟨r,rfl,rfl,aq,an⟩;dsimp only [aK,aJ];refine aB 3 rfl<|f_S (cX Tryz.zeroValue25 rfl fun b10=>?_)
 refine f_Z (bQ Tryz.sizeOf25 rfl rfl rfl rfl cG [fI r] rfl ?_);refine aB 1 rfl<|aD kh2<|aV fun kh3=>aG fun kh4=>aB 2 rfl<|aD kh4<|aX rfl (fun c22=>?_) (fun c22=>?_)
 ·refine aG fun al=>aB 3 rfl<|aD al<|aZ<|dA ?_
  have e:bwE N l bs (bJ R) q c=clE N l bs (bJ R) q c:=by unfold bwE;rw [if_pos (by simpa using c22)]
  exact dB [[]] Tryz.results122 rfl rfl (show Fly.Sub _ [[]] from aC) ⟨[],none,0,[],by rw [e];rfl,rfl,Own.nil _ _,fun _=>rfl,fun h=>absurd (e.symm.trans h) (by simpa using c22)⟩
 ·have Y:clE N l bs (bJ R) q c=0:=by simpa using c22
  obtain ⟨n,k,j,ap,X,au,ar,aw,az⟩:=kD Y
  have ae:=X.len
  rw [eZ] at ae;have ah:=X.many
  obtain ⟨av,ax,hlen,aa⟩:=cF X.g
  have ac:=an Y
  have U:=qD ac aA
  rw [show q.toNat - 1=k by omega] at U;have ao:=X.rowlen (k:=k) aA
  rw [U] at ao;have ag:=hn.rows r (List.mem_of_getElem? ac)
  refine bZ kh3<|aV fun kh6=>aG fun kh7=>aB 2 rfl<|aD kh7<|aX rfl (fun c25=>?_) (fun c25=>?_)
  ·refine aG fun ak=>aB 2 rfl<|aD ak<|aZ<|dA ?_
   have e:bwE N l bs (bJ R) q c=111:=by unfold bwE;rw [if_neg (by rw [Y];simp),if_pos aA]
   exact dB [[]] Tryz.results122 rfl rfl (show Fly.Sub _ [[]] from aC) ⟨[],none,0,[],by rw [e];rfl,rfl,Own.nil _ _,fun _=>rfl,fun h=>absurd (e.symm.trans h) (by decide)⟩
  ·obtain ⟨O,ay⟩:∃ O,k=O+1:=⟨k - 1,aA⟩
   have J:O<R.length:=aA
   have Z:=hn.rows _ (List.getElem_mem J)
   have ab:=iV J
   have ad:=X.rowlen (k:=O) aA
   rw [ab] at ad;obtain ⟨b0,o0,ai,aj,am⟩:=hn.c (gX J)
   refine bZ kh6<|aG fun kh9=>cN jF rfl<|f_Q (aH Tryz.isAgg32 rfl (v:= .slice (some ⟨b0,o0,none⟩) R.length cc) (rdA (by rw [← ai];rfl))) ?_
   refine aB 1 rfl<|f_Q (j5 rfl rfl _ (Eq.trans (d8 aA) (show _=(O:Int) by omega))) ?_
   refine f_Q (aM g5 rfl rfl (o0+O))<|f_Q (aH Tryz.isAgg25 rfl (eC (enc:=fI) aj am J))<|f_S (cX Tryz.zeroValue25 rfl fun b12=>?_)
   refine f_Z (bQ Tryz.sizeOf25 rfl rfl rfl rfl cG [fI (R[O]'J)] rfl ?_);refine aD kh9 <| aG fun kh10 => f_Q (aQ (vs := [_, _]) Tryz.isAgg24 Tryz.sizeOf24 rfl rfl ⟨(rdA rfl), (rdA rfl), trivial⟩) <| f_Q (mH rfl rfl) ?_
   refine f_S (aW Tryz.call154 rfl (fun w_ F => chosen_spec N A l cap (btP r.2.1 (R[O]'J).2.1 c) 158 [.pointer (some ⟨b10, 0, none⟩), .pointer (some ⟨b7, 0, none⟩), .pointer (some ⟨b12, 0, none⟩)] w_ (hr.up0 F) hlen Tryz.call158 (fun w' hs i hi => Between1_spec l[i] b10 b7 b12 r.1 r.2.1 r.2.2 (R[O]'J).1 (R[O]'J).2.1 (R[O]'J).2.2 c w' (heldRo F hs) (heldRo F hs) (heldRo F hs) (Ro.held (ag.1.up0 F) hs) (Ro.held (Z.1.up0 F) hs) aA (by have := aa i hi; omega) (by have := aa i hi; omega))) ?_);rintro _ _ ⟨Ao, co, mo, rfl, rfl, hO⟩;dsimp only [aK, aJ];refine aB 2 rfl <| aD kh10 <| aZ ?_
   have e:bwE N l bs (bJ R) q c=0:=by unfold bwE;rw [if_neg (by rw [Y];simp),if_neg aA]
   exact dB [mo] Tryz.results122 rfl rfl aC ⟨_,Ao,co,mo,by rw [e],rfl,hO,fun h=>absurd e h,fun _=>by rw [show q.toNat - 1=k by omega,show q.toNat - 2=O by omega,U,ab]⟩
def bdOf (L:List Int) (c:Int) (a:Arc):List Int:=if L.getD a.src.toNat 0=L.getD a.dst.toNat 0 then [] else (if L.getD a.src.toNat 0=c then [a.src] else [])++(if L.getD a.dst.toNat 0=c then [a.dst] else [])
def bdR (L:List Int) (c:Int) (l:List Arc):List Int:=l.flatMap (bdOf L c)
def bdL (L:List Int) (c:Int) (l:List Arc):List Int:=cpt (iU (bdR L c l))
theorem bdOf_len (L:List Int) (c:Int) (a:Arc):(bdOf L c a).length≤2:=by
 unfold bdOf
 by_cases h:L.getD a.src.toNat 0=L.getD a.dst.toNat 0
 ·rw [if_pos h];simp
 ·rw [if_neg h,List.length_append]
  have e (p:Prop) [Decidable p] (x:Int):(if p then [x] else ([]:List Int)).length≤1:=by split<;>simp
  have:=e (L.getD a.src.toNat 0=c) a.src
  have:=e (L.getD a.dst.toNat 0=c) a.dst
  omega
theorem bdR_next {L:List Int} {c:Int} {l:List Arc} {k:Nat} (hk:k<l.length):bdR L c (l.take (k+1))=bdR L c (l.take k)++bdOf L c l[k]:=by
 unfold bdR;rw [List.take_succ_eq_append_getElem hk,List.flatMap_append];simp
theorem bdR_len (L:List Int) (c:Int):∀ l:List Arc,(bdR L c l).length≤2*l.length
 |[]=>by simp [bdR]
 |a::l=>by
  have:=bdR_len L c l
  have:=bdOf_len L c a
  unfold bdR at*
  rw [List.flatMap_cons,List.length_append,List.length_cons];omega
theorem jJ {L:List Int} {c:Int} {a:Arc} {v:Int}:v∈bdOf L c a↔L.getD a.src.toNat 0≠L.getD a.dst.toNat 0∧((L.getD a.src.toNat 0=c∧v=a.src)∨(L.getD a.dst.toNat 0=c∧v=a.dst)):=by
 unfold bdOf
 split
 ·rename_i h;exact ⟨fun h2=>absurd h2 aO,fun h2=>absurd h h2.1⟩
 ·rename_i h
  rw [List.mem_append];constructor
  ·rintro (h1|h1)
   ·split at h1
    ·rename_i h2;exact ⟨h,.inl ⟨h2,by simpa using h1⟩⟩
    ·simp at h1
   ·split at h1
    ·rename_i h2;exact ⟨h,.inr ⟨h2,by simpa using h1⟩⟩
    ·simp at h1
  ·rintro ⟨_,⟨h2,rfl⟩|⟨h2,rfl⟩⟩
   ·rw [if_pos h2];exact .inl aO
   ·rw [if_pos h2];exact .inr aO
theorem kH {L:List Int} {c:Int} {l:List Arc} {v:Int}:v∈bdL L c l↔∃ a∈l,v∈bdOf L c a:=by
 unfold bdL;rw [qY,(sortI_perm _).mem_iff];unfold bdR;rw [List.mem_flatMap]
theorem i8 (N:Int) (A:Option Addr) (l:List Arc) (cap:Nat) (Ab:Option Addr) (bs:List Int) (cb:Nat) (Ac:Option Addr) (R:List Row) (cc:Nat) (q c:Int) (w:World) (hr:Ro (Fr w []) w A (l.flatMap cH)) (hl:l.length≤9223372036854775807) (hN:I64 N) (hok:∀ x∈l,eN x) (hn:NestRo (Fr w []) w Ab bs Ac R):
    Meets Tryz.prog 9 [.agg #[.int .i64 N,.slice A l.length cap],.agg #[.slice Ab bs.length cb,.slice Ac R.length cc],.int .i64 q,.int .i64 c] w [] (fun u own' =>∃ (M:List Int) (A' :Option Addr) (c2:Nat) (m' :Seg),u= .tuple #[.slice A' M.length M.length,.int .i64 (clE N l bs (bJ R) q c)]∧own' =[m']∧Own 3 1 (.slice A' M.length c2) M.length (a8 M) m'∧(clE N l bs (bJ R) q c≠0→M=[])∧(clE N l bs (bJ R) q c=0→M=bdL ((bJ R).getD (q.toNat - 1) []) c l)):=by
 refine bG Tryz.func9 rfl Tryz.ntmps9 rfl Owns.nil<|aG fun kh1=>f_S (cZ rfl rfl fun b4=>?_)
 refine f_S (cZ rfl rfl fun b5=>?_);refine aB 2 rfl<|aD kh1<|aG fun kh2=>f_Q (aQ (vs:=[_,_]) Tryz.isAgg24 Tryz.sizeOf24 rfl rfl ⟨(rdA rfl),(rdA rfl),trivial⟩)<|f_Q (aQ (vs:=[_,_]) Tryz.isAgg34 Tryz.sizeOf34 rfl rfl ⟨(rdA rfl),(rdA rfl),trivial⟩)<|aB 2 rfl ?_
 refine f_S (aW Tryz.call21 rfl (fun w_ hp_=>qZ N A l cap Ab bs cb Ac R cc q c w_ (hr.up0 hp_) hl hN hok (hn.up0 hp_)) ?_);rintro _ _ ⟨⟨Ar,L,cr⟩,rfl,rfl,bf,ax⟩;dsimp only [aK,aJ];refine aB 5 rfl<|aD kh2<|aV fun kh3=>aG fun kh4=>aB 2 rfl<|aD kh4<|aX rfl (fun c24=>?_) (fun c24=>?_)
 ·refine aG fun ar=>aB 3 rfl<|aD ar<|aZ<|dA ?_
  have e:clE N l bs (bJ R) q c=clE N l bs (bJ R) q c:=rfl
  exact dB [[]] Tryz.results9 rfl rfl (show Fly.Sub _ [[]] from aC) ⟨[],none,0,[],by rw [e];rfl,rfl,Own.nil _ _,fun _=>rfl,fun h=>absurd (e.symm.trans h) (by simpa using c24)⟩
 ·have ad:clE N l bs (bJ R) q c=0:=by simpa using c24
  obtain ⟨n,k,j,bi,aa,bg,be,bk,bq⟩:=kD ad
  have au:=aa.len
  rw [eZ] at au;have aq:=aa.many
  obtain ⟨bh,bj,hlen,ay⟩:=cF aa.g
  have ao:=ax ad
  have X:_=L:=qD ao aA
  rw [show q.toNat - 1=k by omega] at X;have ba:=aa.rowlen (k:=k) aA
  rw [X] at ba;have ak:=hn.rows (Ar,L,cr) (List.mem_of_getElem? ao)
  dsimp only at ak;refine f_reC 10 rfl (v:= .slice Ar L.length cr) rfl<|bZ kh3<|aG fun kh6=>aB 1 rfl<|aD kh6<|aV fun kh7=>aG fun a2=>cN gM rfl<|c7 Tryz.isAgg22 rfl (rdA rfl)<|dY j7 rfl ?_
  refine aB 1 rfl<|aD a2<|aS ?_
  refine dF (α:=Nat×Value×Seg) [3,10,27,28] (fun ⟨i,ov,om⟩=>[(29,.int .i64 (i:Int)),(12,ov)]) (fun ⟨i,ov,om⟩=>[om]) (fun ⟨i,ov,om⟩=>i≤l.length∧Own 3 1 ov (bdR L c (l.take i)).length (a8 (bdR L c (l.take i))) om) (fun ⟨i,ov,om⟩=>l.length - i) (0,.slice none 0 0,[]) ?_ ?_ ?_ ?_
  ·exact aF
  ·exact aC
  ·exact ⟨Nat.zero_le _,Own.nil _ _⟩
  ·rintro ⟨i,ov,om⟩ ⟨a1,hO⟩;have ah:=bdR_len L c (l.take i)
   rw [List.length_take,Nat.min_eq_left a1] at ah;obtain ⟨Ao,co,rfl,ap⟩:=hO.val
   refine aG fun kh9=>aB 1 rfl<|aD kh9<|aV fun kh10=>aX rfl (fun az=>?_) (fun az=>?_)
   ·have hi:i<l.length:=aA
    obtain ⟨bl,off,rfl,hS,hc⟩:=hr (fH cH dO aA hi)
    have bp:=ay i hi
    have ab:l[i].src.toNat<L.length:=aA
    have Y:l[i].dst.toNat<L.length:=aA
    obtain ⟨br,or,rfl,Z,O⟩:=ak.1 (fun e=>by have:=a7 L;rw [e] at this;simp at this;omega)
    have F:=bdR_next (L:=L) (c:=c) hi
    refine bZ kh10<|aV fun kh11=>aS<|aG fun kh12=>f_Q (aM j7 rfl rfl (off+i*3))<|f_Q (aQ (vs:=cH l[i]) Tryz.isAgg69 Tryz.sizeOf69 rfl rfl (gV dO hS hc hi))<|f_S (cX Tryz.zeroValue69 rfl fun b14=>?_)
    refine f_Z (bS Tryz.sizeOf69 rfl rfl rfl rfl cG (cH l[i]) rfl ?_);refine aD kh12<|aV fun kh13=>aV fun kh14=>h9 rfl aU<|dN 1 rfl<|dG (aT gC rfl)<|gH Tryz.isAgg3 rfl (rdA rfl)<|dG (aM bU rfl rfl (or+l[i].src.toNat))<|dG (aH Tryz.isAgg3 rfl (eC (enc:=(.int .i64 ·)) Z O ab))<|dN 1 rfl ?_
    refine dG (aT fT rfl)<|gH Tryz.isAgg3 rfl (rdA rfl)<|dG (aM bU rfl rfl (or+l[i].dst.toNat))<|dG (aH Tryz.isAgg3 rfl (eC (enc:=(.int .i64 ·)) Z O Y))<|dN 1 rfl<|eK<|bP kh14<|aX rfl (fun c43=>?_) (fun c43=>?_)
    ·have hb:bdOf L c l[i]=[]:=by unfold bdOf;rw [eJ ab,eJ Y,if_pos c43]
     rw [hb,List.append_nil] at F;refine cS<|cU<|eH<|bP kh11<|aI<|f_Q (bF rfl rfl)<|aB 1 rfl<|aY ?_
     refine cV (a6 (i+1,.slice Ao (bdR L c (l.take i)).length co,om) (by first|omega|(dsimp only;omega)|(simp;omega)) ⟨aA,by rw [F];exact hO⟩ ?_ ?_ ?_)
     ·exact aF
     ·exact aF
     ·exact aC
    ·have hb:bdOf L c l[i]=(if L[l[i].src.toNat]=c then [l[i].src] else [])++(if L[l[i].dst.toNat]=c then [l[i].dst] else []):=by unfold bdOf;rw [eJ ab,eJ Y,if_neg c43]
     refine bZ kh13<|aV fun kh15=>aG fun kh16=>aB 1 rfl<|cN gC rfl<|c7 Tryz.isAgg3 rfl (rdA rfl)<|f_Q (aM bU rfl rfl (or+l[i].src.toNat))<|f_Q (aH Tryz.isAgg3 rfl (eC (enc:=(.int .i64 ·)) Z O ab))<|aB 2 rfl<|aD kh16<|aX rfl (fun c50=>?_) (fun c50=>?_)
     ·rw [if_pos c50] at hb;refine aI<|aB 1 rfl<|cN gC rfl<|c7 Tryz.isAgg3 rfl (rdA rfl)<|f_S (bX eO aA rfl rfl rfl fun b54=>?_)
      refine f_S (dJ eO rfl rfl hO (ys:=[.int .i64 l[i].src]) ⟨(rdA rfl),trivial⟩ rfl rfl aA aA fun v55 am aw=>?_);obtain ⟨X1,J⟩:∃ X1,X1=bdR L c (l.take i)++[l[i].src]:=⟨_,rfl⟩
      have U:Own 3 1 v55 X1.length (a8 X1) am:=by rw [J,List.length_append,eL];exact aw
      have al:X1.length≤2*i+1:=by rw [J,List.length_append,List.length_singleton];omega
      refine aB 1 rfl<|aD kh15<|aG fun kh17=>aB 1 rfl<|cN fT rfl<|c7 Tryz.isAgg3 rfl (rdA rfl)<|f_Q (aM bU rfl rfl (or+l[i].dst.toNat))<|f_Q (aH Tryz.isAgg3 rfl (eC (enc:=(.int .i64 ·)) Z O Y))<|aB 2 rfl<|aD kh17<|aX rfl (fun c62=>?_) (fun c62=>?_)
      ·rw [if_pos c62] at hb;rw [hb,← List.append_assoc,← J] at F;refine aI<|aB 1 rfl<|cN fT rfl<|c7 Tryz.isAgg3 rfl (rdA rfl)<|f_S (bX eO aA rfl rfl rfl fun b66=>?_)
       refine f_S (dJ eO rfl rfl U (ys:=[.int .i64 l[i].dst]) ⟨(rdA rfl),trivial⟩ rfl rfl aA aA fun ai ae aj=>?_);refine aB 1 rfl<|aY<|dI<|bP kh11<|aI<|f_Q (bF rfl rfl)<|aB 1 rfl<|aY ?_
       refine cV (a6 (i+1,ai,ae) (by first|omega|(dsimp only;omega)|(simp;omega)) ⟨aA,by rw [F,List.length_append,eL];exact aj⟩ ?_ ?_ ?_)
       ·exact aF
       ·exact aF
       ·exact aC
      ·rw [if_neg c62,List.append_nil] at hb;rw [hb,← J] at F;refine dZ<|dI<|bP kh11<|aI<|f_Q (bF rfl rfl)<|aB 1 rfl<|aY ?_
       refine cV (a6 (i+1,v55,am) (by first|omega|(dsimp only;omega)|(simp;omega)) ⟨aA,by rw [F];exact U⟩ ?_ ?_ ?_)
       ·exact aF
       ·exact aF
       ·exact aC
     ·rw [if_neg c50] at hb;obtain ⟨X1,J⟩:∃ X1,X1=bdR L c (l.take i)++[]:=⟨_,rfl⟩
      have U:Own 3 1 (.slice Ao (bdR L c (l.take i)).length co) X1.length (a8 X1) om:=by rw [J,List.append_nil];exact hO
      have al:X1.length≤2*i+1:=by rw [J,List.append_nil];omega
      refine bZ kh15<|aG fun kh18=>aB 1 rfl<|cN fT rfl<|c7 Tryz.isAgg3 rfl (rdA rfl)<|f_Q (aM bU rfl rfl (or+l[i].dst.toNat))<|f_Q (aH Tryz.isAgg3 rfl (eC (enc:=(.int .i64 ·)) Z O Y))<|aB 2 rfl<|aD kh18<|aX rfl (fun c62=>?_) (fun c62=>?_)
      ·rw [if_pos c62] at hb;rw [hb,← List.append_assoc,← J] at F;refine aI<|aB 1 rfl<|cN fT rfl<|c7 Tryz.isAgg3 rfl (rdA rfl)<|f_S (bX eO aA rfl rfl rfl fun b66=>?_)
       refine f_S (dJ eO rfl rfl U (ys:=[.int .i64 l[i].dst]) ⟨(rdA rfl),trivial⟩ rfl rfl aA aA fun ai ae aj=>?_);refine aB 1 rfl<|aY<|dI<|bP kh11<|aI<|f_Q (bF rfl rfl)<|aB 1 rfl<|aY ?_
       refine cV (a6 (i+1,ai,ae) (by first|omega|(dsimp only;omega)|(simp;omega)) ⟨aA,by rw [F,List.length_append,eL];exact aj⟩ ?_ ?_ ?_)
       ·exact aF
       ·exact aF
       ·exact aC
      ·rw [if_neg c62,List.append_nil] at hb;rw [hb,← J] at F;refine dZ<|dI<|bP kh11<|aI<|f_Q (bF rfl rfl)<|aB 1 rfl<|aY ?_
       refine cV (a6 (i+1,.slice Ao (bdR L c (l.take i)).length co,om) (by first|omega|(dsimp only;omega)|(simp;omega)) ⟨aA,by rw [F];exact U⟩ ?_ ?_ ?_)
       ·exact aF
       ·exact aF
       ·exact aC
   ·obtain rfl:i=l.length:=aA
    rw [List.take_length] at hO ah ap;obtain ⟨LO,ag⟩:∃ LO,bdR L c l=LO:=⟨_,rfl⟩
    rw [ag] at hO ah ap;refine f_reC 12 rfl (v:= .slice Ao LO.length co) (by rw [List.take_length,ag]) ?_;refine cS<|cU<|cU<|eH<|bP kh7<|aG fun kh19=>aB 1 rfl ?_
    refine f_S (d5 [om] _ Tryz.call22 rfl (by repeat (first|exact Sub.refl|refine aL ?_)) (fun w_ hp_=>lZ Ao co LO om w_ hO aA hp_.owns) ?_);rintro _ _ ⟨rfl,m2,rfl,av⟩;dsimp only [aK,aJ];refine aD kh19<|aG fun kh20=>aB 1 rfl ?_
    refine f_S (d5 [m2] _ Tryz.call24 rfl (by repeat (first|exact Sub.refl|refine aL ?_)) (fun w_ hp_=>(by have h:=nB Ao co (iU LO) m2 w_ (by rw [fP];exact av) (by rw [fP];omega) hp_.owns;rw [fP] at h;exact h)) ?_);rintro bc _ ⟨m3,rfl,ac⟩;obtain ⟨A3,c3,rfl,an⟩:=ac.val
    dsimp only [aK,aJ];refine f_S (aW Tryz.call23 rfl (fun w_ hp_=>cut_spec A3 (cpt (iU LO)).length c3 w_ an.1 an.2 (kX ac)) ?_);rintro _ _ ⟨rfl,rfl⟩;dsimp only [aK,aJ];refine aB 2 rfl<|aD kh20<|aZ ?_
    have e:=ad
    exact dB [m3] Tryz.results9 rfl rfl aC ⟨_,A3,c3,m3,by rw [e],rfl,ac,fun h=>absurd e h,fun _=>by unfold bdL;rw [show q.toNat - 1=k by omega,X,ag]⟩
end Go.Proofs.YthpkelafioikaaaGreat
namespace Go.Proofs.YthpkelafioikaaaGreat
open Go Fly
set_option linter.unusedVariables false
set_option linter.unusedSimpArgs false
set_option linter.unusedSectionVars false
abbrev iM:Nat→Bool:=fun _=>true
def pI (l:List Arc) (L:List Int) (c:Int) (i:Nat):Bool:=(l[i]?.map (inP L c)).getD false
theorem pI_at {l:List Arc} {L:List Int} {c:Int} {i:Nat} (h:i<l.length):pI l L c i=inP L c l[i]:=by simp [pI,h]
theorem lT {L:List Int} {c:Int} {a:Arc}:inP L c a=true↔L.getD a.src.toNat 0=c∧L.getD a.dst.toNat 0=c:=by
 unfold inP;rw [Bool.and_eq_true,decide_eq_true_eq,decide_eq_true_eq]
theorem bdL_in {L:List Int} {c:Int} {l:List Arc} {v:Int} (h:v∈bdL L c l):L.getD v.toNat 0=c:=by
 obtain ⟨a,_,ha⟩:=kH.1 h
 rcases (jJ.1 ha).2 with ⟨h1,rfl⟩|⟨h1,rfl⟩<;>exact h1
structure MatOk (l:List Arc) (L:List Int) (c:Int) (D:List Int):Prop where
 len:D.length=(bdL L c l).length*(bdL L c l).length
 at_:∀ i j (hi:i<(bdL L c l).length) (hj:j<(bdL L c l).length),IsB l (pI l L c) (bdL L c l)[i].toNat (bdL L c l)[j].toNat (dg D (i*(bdL L c l).length+j))
def mxA (B D:List Int) (k:Nat):List Arc:=if dg D k<INF then [⟨B.getD (k / B.length) 0,B.getD (k % B.length) 0,dg D k⟩] else []
def mxE (B D:List Int) (k:Nat):List Arc:=(List.range k).flatMap (mxA B D)
theorem mxE_next (B D:List Int) (k:Nat):mxE B D (k+1)=mxE B D k++mxA B D k:=by
 unfold mxE;rw [List.range_succ,List.flatMap_append];simp
theorem mxE_mem {B D:List Int} {k:Nat} {a:Arc}:a∈mxE B D k↔∃ i,i<k∧dg D i<INF∧a=⟨B.getD (i / B.length) 0,B.getD (i % B.length) 0,dg D i⟩:=by
 unfold mxE mxA
 rw [List.mem_flatMap];constructor
 ·rintro ⟨i,hi,hm⟩
  split at hm
  ·rename_i h;exact ⟨i,List.mem_range.1 hi,h,List.mem_singleton.1 hm⟩
  ·cases hm
 ·rintro ⟨i,hi,h,rfl⟩
  exact ⟨i,List.mem_range.2 hi,by rw [if_pos h];exact List.mem_singleton.2 rfl⟩
theorem sq_div {k m:Nat} (h:k<m*m):k / m<m∧k % m<m∧k / m*m+k % m=k:=by
 have hm:0<m:=Nat.pos_of_ne_zero fun e=>by subst e;simp at h
 refine ⟨Nat.div_lt_of_lt_mul h,Nat.mod_lt _ hm,?_⟩;have:=Nat.div_add_mod k m
 rw [Nat.mul_comm] at this;exact this
theorem MatOk.arc {l:List Arc} {L:List Int} {c:Int} {D:List Int} (h:MatOk l L c D) {a:Arc} (ha:a∈mxE (bdL L c l) D D.length):a.src∈bdL L c l∧a.dst∈bdL L c l∧a.wt<INF∧Wk l (pI l L c) a.src.toNat a.dst.toNat a.wt:=by
 obtain ⟨k,hk,hlt,rfl⟩:=mxE_mem.1 ha
 obtain ⟨h1,h2,h3⟩:=sq_div (h.len▸hk)
 have hb:=h.at_ _ _ h1 h2
 rw [h3] at hb;have e1:(bdL L c l).getD (k / (bdL L c l).length) 0=(bdL L c l)[k / (bdL L c l).length]:=eJ h1
 have e2:(bdL L c l).getD (k % (bdL L c l).length) 0=(bdL L c l)[k % (bdL L c l).length]:=eJ h2
 dsimp only;rw [e1,e2];exact ⟨List.getElem_mem _,List.getElem_mem _,hlt,hb.walk hlt⟩
theorem MatOk.over {l:List Arc} {L:List Int} {c:Int} {D:List Int} (h:MatOk l L c D) {x y:Int} (hx:x∈bdL L c l) (hy:y∈bdL L c l) {m:Int} (hm:Wk l (pI l L c) x.toNat y.toNat m) (hlt:m<INF):∃ a∈mxE (bdL L c l) D D.length,a.src=x∧a.dst=y∧a.wt≤m:=by
 obtain ⟨i,hi,rfl⟩:=List.mem_iff_getElem.1 hx
 obtain ⟨j,hj,rfl⟩:=List.mem_iff_getElem.1 hy
 have hb:=h.at_ i j hi hj
 have J:=hb.min m hm
 have F:0<(bdL L c l).length:=aA
 have e1:(i*(bdL L c l).length+j) / (bdL L c l).length=i:=by
  rw [Nat.mul_comm,Nat.mul_add_div F,Nat.div_eq_of_lt hj];omega
 have e2:(i*(bdL L c l).length+j) % (bdL L c l).length=j:=by
  rw [Nat.mul_comm,Nat.mul_add_mod,Nat.mod_eq_of_lt hj]
 have hk:i*(bdL L c l).length+j<D.length:=by
  rw [h.len];have:(i+1)*(bdL L c l).length≤(bdL L c l).length*(bdL L c l).length:=Nat.mul_le_mul_right _ hi
  rw [Nat.succ_mul] at this;omega
 refine ⟨_,mxE_mem.2 ⟨_,hk,aA,rfl⟩,?_,?_,J⟩
 ·dsimp only;rw [e1];exact eJ hi
 ·dsimp only;rw [e2];exact eJ hj
def SameEnds (l l' :List Arc):Prop:=l.length=l'.length∧∀ i (h:i<l.length) (h' :i<l'.length),l'[i].src=l[i].src∧l'[i].dst=l[i].dst
theorem bdL_ends {l l' :List Arc} (h:SameEnds l l') (L:List Int) (c:Int):bdL L c l' =bdL L c l:=by
 have key:∀ k,k≤l.length→bdR L c (l'.take k)=bdR L c (l.take k):=fun k=>by
  induction k with
  |zero=>intro _;simp [bdR]
  |succ k ih=>
   intro hk;have h1:=h.1
   have ⟨e1,e2⟩:=h.2 k aA aA
   rw [bdR_next aA,bdR_next aA,ih aA]
   unfold bdOf;rw [e1,e2]
 have:=key l.length (Nat.le_refl _)
 rw [List.take_length,List.take_of_length_le (by have:=h.1;omega)] at this
 unfold bdL;rw [this]
theorem MatOk.other {l l' :List Arc} {L:List Int} {c:Int} {D:List Int} (h:MatOk l L c D) (he:SameEnds l l') (hw:∀ i (h:i<l.length) (h' :i<l'.length),inP L c l[i]=true→l'[i]=l[i]):MatOk l' L c D:=by
 have hb:=bdL_ends he L c
 have hp:pI l' L c=pI l L c:=funext fun i=>by
  by_cases hi:i<l.length
  ·have hi' :i<l'.length:=he.1▸hi
   obtain ⟨e1,e2⟩:=he.2 i hi hi'
   rw [pI_at hi,pI_at hi'];unfold inP;rw [e1,e2]
  ·have h1:l[i]? =none:=List.getElem?_eq_none aA
   have h2:l'[i]? =none:=List.getElem?_eq_none (by have:=he.1;omega)
   unfold pI;rw [h1,h2]
 refine ⟨by rw [hb];exact h.len,?_⟩;rw [hb,hp];intro i j hi hj;exact (h.at_ i j hi hj).other he.1 fun k hk J F=>hw k hk J (by rw [pI_at hk] at F;exact F)
theorem IsB.inner {l:List Arc} {L:List Int} {c:Int} {p:Nat→Bool} (hp:∀ i (h:i<l.length),p i=decide (L.getD l[i].dst.toNat 0=c)) {s t:Nat} {x:Int} (hs:L.getD s 0=c) (h:IsB l p s t x):IsB l (pI l L c) s t x:=
 h.through (I:=fun v=>L.getD v 0=c) hs
  (fun i hi h1 h2=>by rw [hp i hi] at h2;exact ⟨by simpa using h2,by rw [pI_at hi,lT];exact ⟨h1,by simpa using h2⟩⟩)
  (fun i hi h1 h2=>by rw [pI_at hi,lT] at h2;exact ⟨h2.2,by rw [hp i hi,decide_eq_true_eq];exact h2.2⟩)
structure Kids (n:Nat) (Lb L:List Int) (c:Int) (kids:List Int):Prop where
 mem:∀ v,v<n→L.getD v 0=c→Lb.getD v 0∈kids
 has:∀ x∈kids,∃ v,v<n∧L.getD v 0=c∧Lb.getD v 0=x
structure UpE (l:List Arc) (Lb L:List Int) (c:Int) (kids:List Int) (E:List Arc):Prop where
 src:∀ a∈E,(∃ k∈kids,a.src∈bdL Lb k l∧a.dst∈bdL Lb k l∧a.wt<INF∧Wk l (pI l Lb k) a.src.toNat a.dst.toNat a.wt)∨(a∈l∧btP L Lb c a=true)
 mat:∀ k∈kids,∀ x y m,x∈bdL Lb k l→y∈bdL Lb k l→Wk l (pI l Lb k) x.toNat y.toNat m→m<INF→∃ a∈E,a.src=x∧a.dst=y∧a.wt≤m
 btw:∀ a∈l,btP L Lb c a=true→a∈E
theorem btP_iff {L B:List Int} {c:Int} {a:Arc}:btP L B c a=true↔(L.getD a.src.toNat 0=c∧L.getD a.dst.toNat 0=c)∧B.getD a.src.toNat 0≠B.getD a.dst.toNat 0:=by
 unfold btP unP;rw [Bool.and_eq_true,lT,decide_eq_true_eq]
variable {n:Nat} {l E:List Arc} {Lb L:List Int} {c:Int} {kids:List Int}
theorem up_ov (hg:∀ i (h:i<l.length),0≤l[i].src∧l[i].src<(n:Int)∧0≤l[i].dst∧l[i].dst<(n:Int)) (ah:Lb.length=n) (J:iP Lb L) (hk:Kids n Lb L c kids) (hE:UpE l Lb L c kids E):
  Ov l E (pI l L c) (fun i=>(l[i]?.map fun a=>decide (Lb.getD a.src.toNat 0=Lb.getD a.dst.toNat 0)).getD false) (fun v=>v<n∧L.getD v 0=c∧(v:Int)∈bdL Lb (Lb.getD v 0) l) where
 sound i hi:=by
  rcases hE.src _ (List.getElem_mem hi) with ⟨k,Y,h1,h2,h3,h4⟩|⟨h1,h2⟩
  ·obtain ⟨v0,ac,e1,e2⟩:=hk.has k Y
   refine (h4.keepP (I:=fun v=>v<n∧Lb.getD v 0=k) ⟨?_,bdL_in h1⟩ fun j hj U hp=>?_).2
   ·obtain ⟨a,ha,hb⟩:=kH.1 h1
    obtain ⟨j,hj,rfl⟩:=List.mem_iff_getElem.1 ha
    have:=hg j hj
    rcases (jJ.1 hb).2 with ⟨_,e⟩|⟨_,e⟩<;>rw [e]<;>omega
   ·rw [pI_at hj,lT] at hp
    have ag:=hg j hj
    refine ⟨⟨aA,hp.2⟩,?_⟩;rw [pI_at hj,lT];exact ⟨(J _ aA v0 aA (hp.1.trans e2.symm)).trans e1,(J _ aA v0 aA (hp.2.trans e2.symm)).trans e1⟩
  ·obtain ⟨j,hj,e⟩:=List.mem_iff_getElem.1 h1
   rw [← e] at h2 ⊢;exact Wk.one hj (by rw [pI_at hj,lT];exact (btP_iff.1 h2).1)
 arc i hi hp hs:=by
  rw [pI_at hi,lT] at hp;have F:Lb.getD l[i].src.toNat 0≠Lb.getD l[i].dst.toNat 0:=by simpa [hi] using hs
  have ab:=hg i hi
  obtain ⟨j,hj,e⟩:=List.mem_iff_getElem.1 (hE.btw _ (List.getElem_mem hi) (btP_iff.2 ⟨hp,F⟩))
  refine ⟨⟨aA,hp.1,kH.2 ⟨_,List.getElem_mem hi,jJ.2 ⟨F,.inl ⟨rfl,?_⟩⟩⟩⟩,⟨aA,hp.2,kH.2 ⟨_,List.getElem_mem hi,jJ.2 ⟨F,.inr ⟨rfl,?_⟩⟩⟩⟩,j,hj,by rw [e],by rw [e],by rw [e];exact Int.le_refl _⟩<;>omega
 part x y m hx hy hlt hm:=by
  have hsm:=hm.same (f:=fun v=>Lb.getD v 0) fun i hi hp=>by
   rw [Bool.and_eq_true] at hp
   simpa [hi] using hp.2
  obtain ⟨aa,Z,X⟩:=hx
  obtain ⟨ae,ad,O⟩:=hy
  rw [hsm] at O
  have hw:=(hm.keepP (I:=fun v=>Lb.getD v 0=Lb.getD x 0) (q:=pI l Lb (Lb.getD x 0)) rfl fun i hi U hp=>by
   rw [Bool.and_eq_true] at hp;have h2:Lb.getD l[i].src.toNat 0=Lb.getD l[i].dst.toNat 0:=by simpa [hi] using hp.2
   exact ⟨h2▸U,by rw [pI_at hi,lT];exact ⟨U,h2▸U⟩⟩).2
  obtain ⟨a,ha,e1,e2,e3⟩:=hE.mat _ (hk.mem x aa Z) (x:Int) (y:Int) m X O (by simpa using hw) hlt
  obtain ⟨j,hj,rfl⟩:=List.mem_iff_getElem.1 ha
  have h1:=Wk.one (p:=fun _=>true) hj rfl
  rw [e1,e2,Int.toNat_natCast,Int.toNat_natCast] at h1;exact ⟨_,e3,h1⟩
theorem bd_gate (hg:∀ i (h:i<l.length),0≤l[i].src∧l[i].src<(n:Int)∧0≤l[i].dst∧l[i].dst<(n:Int)) (X:Lb.length=n) (O:iP Lb L) {v:Int} (h:v∈bdL L c l):v.toNat<n∧0≤v∧L.getD v.toNat 0=c∧((v.toNat:Nat):Int)∈bdL Lb (Lb.getD v.toNat 0) l:=by
 obtain ⟨a,ha,hb⟩:=kH.1 h
 obtain ⟨j,hj,rfl⟩:=List.mem_iff_getElem.1 ha
 have J:=hg j hj
 obtain ⟨U,ho⟩:=jJ.1 hb
 have F:Lb.getD l[j].src.toNat 0≠Lb.getD l[j].dst.toNat 0:=fun e=>U (O _ aA _ aA e)
 rcases ho with ⟨h1,rfl⟩|⟨h1,rfl⟩
 ·exact ⟨aA,J.1,h1,kH.2 ⟨_,List.getElem_mem hj,jJ.2 ⟨F,.inl ⟨rfl,aA⟩⟩⟩⟩
 ·exact ⟨aA,J.2.2.1,h1,kH.2 ⟨_,List.getElem_mem hj,jJ.2 ⟨F,.inr ⟨rfl,aA⟩⟩⟩⟩
theorem up_ok (hg:∀ i (h:i<l.length),0≤l[i].src∧l[i].src<(n:Int)∧0≤l[i].dst∧l[i].dst<(n:Int)) (O:∀ x∈l,0≤x.wt) (J:Lb.length=n) (F:iP Lb L) (hk:Kids n Lb L c kids) (hE:UpE l Lb L c kids E) {D:List Int} (hl:D.length=(bdL L c l).length*(bdL L c l).length)
  (hD:∀ i j (hi:i<(bdL L c l).length) (hj:j<(bdL L c l).length),IsB E iM (bdL L c l)[i].toNat (bdL L c l)[j].toNat (dg D (i*(bdL L c l).length+j))):MatOk l L c D:=
 ⟨hl,fun i j hi hj=>by
  obtain ⟨X,_,Z,a3⟩:=bd_gate hg J F (List.getElem_mem hi)
  obtain ⟨Y,_,b2,U⟩:=bd_gate hg J F (List.getElem_mem hj)
  exact (up_ov hg J F hk hE).isB O ⟨X,Z,a3⟩ ⟨Y,b2,U⟩ (hD i j hi hj)⟩
end Go.Proofs.YthpkelafioikaaaGreat
namespace Go.Proofs.YthpkelafioikaaaGreat
open Go Fly
set_option linter.unusedVariables false
set_option linter.unusedSimpArgs false
set_option linter.unusedSectionVars false
theorem apV_leQ (L:List (List Int)) (u v:Nat):∀ k,apV L u v k≤k
 |0=>Nat.le_refl _
 |k+1=>by
  have:=apV_leQ L u v k
  unfold apV
  split<;>omega
theorem apV_sameQ (L:List (List Int)) (u:Nat):∀ k,apV L u u k=0
 |0=>rfl
 |k+1=>by
  unfold apV
  rw [if_neg aO];exact apV_sameQ L u k
theorem apV_congr {L:List (List Int)} {u v s k:Nat}:∀ {K:Nat},(∀ j,k≤j→j<K→(L.getD j []).getD u 0=(L.getD j []).getD v 0)→k<apV L u s K→apV L v s K=apV L u s K
 |0,_,h=>by simp [apV] at h
 |K+1,he,h=>by
  unfold apV at h ⊢
  by_cases hk:k≤K
  ·rw [he K hk aA] at h ⊢
   split
   ·rfl
   ·rename_i hn;rw [if_neg hn] at h;exact apV_congr (fun j h1 h2=>he j h1 aA) h
  ·split at h
   ·omega
   ·have:=apV_leQ L u s K;omega
def atV (L:List (List Int)) (s t K v:Nat):Nat:=min (apV L v s K) (apV L v t K)
theorem atV_le (L:List (List Int)) (s t K v:Nat):atV L s t K v≤K:=by
 have:=apV_leQ L v s K;unfold atV;omega
structure Lvs (n K:Nat) (L:List (List Int)):Prop where
 len:∀ k,k<K→(L.getD k []).length=n
 up:∀ k,k+1<K→iP (L.getD k []) (L.getD (k+1) [])
theorem Lvs.above {n K:Nat} {L:List (List Int)} (h:Lvs n K L) {u v:Nat} (J:u<n) (hv:v<n) {k:Nat} (e:(L.getD k []).getD u 0=(L.getD k []).getD v 0):∀ j,k≤j→j<K→(L.getD j []).getD u 0=(L.getD j []).getD v 0:=by
 intro j hj
 induction j with
 |zero=>intro _;rw [show k=0 by omega] at e;exact e
 |succ j ih=>
  intro F
  by_cases e2:k=j+1
  ·rw [← e2];exact e
  ·have hl:=h.len j aA
   exact h.up j F u aA v aA (ih aA aA)
theorem atV_same {n K:Nat} {L:List (List Int)} (h:Lvs n K L) {s t u v k:Nat} (J:u<n) (hv:v<n) (ha:atV L s t K u=k+1) (e:(L.getD k []).getD u 0=(L.getD k []).getD v 0):atV L s t K v=k+1:=by
 have F:=h.above J hv e
 unfold atV at ha ⊢
 rw [apV_congr F aA,apV_congr F aA];exact ha
def qP (L:List (List Int)) (s t K:Nat) (a:Arc):Bool:=decide (atV L s t K a.src.toNat=0)||(decide (atV L s t K a.src.toNat≠atV L s t K a.dst.toNat)||decide ((L.getD (atV L s t K a.src.toNat - 1) []).getD a.src.toNat 0≠(L.getD (atV L s t K a.src.toNat - 1) []).getD a.dst.toNat 0))
structure QyE (n:Nat) (l:List Arc) (L:List (List Int)) (s t K:Nat) (E:List Arc):Prop where
 src:∀ a∈E,(∃ p,Wk l p a.src.toNat a.dst.toNat a.wt)∨a∈l
 mat:∀ k v,v<n→atV L s t K v=k+1→∀ x y m,x∈bdL (L.getD k []) ((L.getD k []).getD v 0) l→y∈bdL (L.getD k []) ((L.getD k []).getD v 0) l→Wk l (pI l (L.getD k []) ((L.getD k []).getD v 0)) x.toNat y.toNat m→m<INF→∃ a∈E,a.src=x∧a.dst=y∧a.wt≤m
 btw:∀ a∈l,qP L s t K a=true→a∈E
variable {n K:Nat} {l E:List Arc} {L:List (List Int)} {s t:Nat}
theorem qP_no {a:Arc} (h:qP L s t K a=false):atV L s t K a.src.toNat≠0∧atV L s t K a.src.toNat=atV L s t K a.dst.toNat∧(L.getD (atV L s t K a.src.toNat - 1) []).getD a.src.toNat 0=(L.getD (atV L s t K a.src.toNat - 1) []).getD a.dst.toNat 0:=by
 unfold qP at h
 rw [Bool.or_eq_false_iff,Bool.or_eq_false_iff,decide_eq_false_iff_not,decide_eq_false_iff_not,decide_eq_false_iff_not] at h;exact ⟨h.1,Classical.not_not.1 h.2.1,Classical.not_not.1 h.2.2⟩
theorem qP_gate (J:Lvs n K L) {u v:Nat} (O:u<n) (hv:v<n) (hq:¬ (atV L s t K u≠0∧atV L s t K u=atV L s t K v∧(L.getD (atV L s t K u - 1) []).getD u 0=(L.getD (atV L s t K u - 1) []).getD v 0)) (F:atV L s t K u≠0):(L.getD (atV L s t K u - 1) []).getD u 0≠(L.getD (atV L s t K u - 1) []).getD v 0:=fun e=>by
 have h1:=atV_same (k:=atV L s t K u - 1) J O hv (s:=s) (t:=t) aA e
 exact hq ⟨F,aA,e⟩
theorem qry_ov (hg:∀ i (h:i<l.length),0≤l[i].src∧l[i].src<(n:Int)∧0≤l[i].dst∧l[i].dst<(n:Int)) (aa:∀ x∈l,0≤x.wt) (hL:Lvs n K L) (hE:QyE n l L s t K E):
  Ov l E iM (fun i=>(l[i]?.map fun a=> !qP L s t K a).getD false) (fun v=>v<n∧(atV L s t K v=0∨(v:Int)∈bdL (L.getD (atV L s t K v - 1) []) ((L.getD (atV L s t K v - 1) []).getD v 0) l)) where
 sound i hi:=by
  rcases hE.src _ (List.getElem_mem hi) with ⟨p,h4⟩|h2
  ·exact h4.mono fun _ _=>rfl
  ·obtain ⟨j,hj,e⟩:=List.mem_iff_getElem.1 h2
   rw [← e];exact Wk.one hj rfl
 arc i hi _ hs:=by
  have hq:qP L s t K l[i]=true:=by simpa [hi] using hs
  have ag:=hg i hi
  have hu:l[i].src.toNat<n:=aA
  have hv:l[i].dst.toNat<n:=aA
  have U:¬ (atV L s t K l[i].src.toNat≠0∧atV L s t K l[i].src.toNat=atV L s t K l[i].dst.toNat∧(L.getD (atV L s t K l[i].src.toNat - 1) []).getD l[i].src.toNat 0=(L.getD (atV L s t K l[i].src.toNat - 1) []).getD l[i].dst.toNat 0):=by
   rintro ⟨h1,h2,h3⟩
   unfold qP at hq
   rw [decide_eq_false h1,decide_eq_false (fun h=>h h2),decide_eq_false (fun h=>h h3)] at hq;cases hq
  obtain ⟨j,hj,e⟩:=List.mem_iff_getElem.1 (hE.btw _ (List.getElem_mem hi) hq)
  refine ⟨⟨hu,?_⟩,⟨hv,?_⟩,j,hj,by rw [e],by rw [e],by rw [e];exact Int.le_refl _⟩
  ·by_cases X:atV L s t K l[i].src.toNat=0
   ·exact .inl X
   ·have:=qP_gate hL hu hv U X
    exact .inr (kH.2 ⟨_,List.getElem_mem hi,jJ.2 ⟨this,.inl ⟨rfl,aA⟩⟩⟩)
  ·by_cases X:atV L s t K l[i].dst.toNat=0
   ·exact .inl X
   ·have:=qP_gate hL hv hu (fun ⟨h1,h2,h3⟩=>U ⟨aA,h2.symm,by rw [← h2];exact h3.symm⟩) X
    exact .inr (kH.2 ⟨_,List.getElem_mem hi,jJ.2 ⟨fun e=>this e.symm,.inr ⟨rfl,aA⟩⟩⟩)
 part x y m hx hy hlt hm:=by
  obtain ⟨F,Z⟩:=hx
  obtain ⟨ai,O⟩:=hy
  have ae:=hm.nonneg aa
  cases hk:atV L s t K x with
  |zero=>
   obtain ⟨e,_⟩:=hm.keepP (I:=fun v=>v=x) (q:=iM) rfl fun i hi J hp=>by
    have hq:qP L s t K l[i]=false:=by simpa [hi] using hp
    have:=(qP_no hq).1
    rw [J,hk] at this;exact absurd rfl this
   subst e;exact ⟨0,ae,.nil⟩
  |succ k=>
   obtain ⟨⟨ab,e⟩,hw⟩:=hm.keepP (I:=fun v=>v<n∧(L.getD k []).getD x 0=(L.getD k []).getD v 0) (q:=pI l (L.getD k []) ((L.getD k []).getD x 0)) ⟨F,rfl⟩ fun i hi J hp=>by
    have hq:qP L s t K l[i]=false:=by simpa [hi] using hp
    have ag:=hg i hi
    obtain ⟨h1,h2,h3⟩:=qP_no hq
    have ac:=atV_same hL F J.1 hk J.2
    rw [ac,Nat.add_sub_cancel] at h3;exact ⟨⟨aA,J.2.trans h3⟩,by rw [pI_at hi,lT];exact ⟨J.2.symm,(J.2.trans h3).symm⟩⟩
   have ad:=atV_same hL F ab hk e
   rw [hk,Nat.add_sub_cancel] at Z;rw [ad,Nat.add_sub_cancel] at O;have ah:=Z.resolve_left aA
   have Y:=O.resolve_left aA
   rw [← e] at Y;obtain ⟨a,ha,e1,e2,e3⟩:=hE.mat k x F hk (x:Int) (y:Int) m ah Y (by simpa using hw) hlt
   obtain ⟨j,hj,rfl⟩:=List.mem_iff_getElem.1 ha
   have h1:=Wk.one (p:=fun _=>true) hj rfl
   rw [e1,e2,Int.toNat_natCast,Int.toNat_natCast] at h1;exact ⟨_,e3,h1⟩
theorem qry_ok (hg:∀ i (h:i<l.length),0≤l[i].src∧l[i].src<(n:Int)∧0≤l[i].dst∧l[i].dst<(n:Int)) (F:∀ x∈l,0≤x.wt) (J:Lvs n K L) (O:QyE n l L s t K E) (hs:s<n) (U:t<n) {x:Int} (h:IsB E iM s t x):IsB l iM s t x:=
 (qry_ov hg F J O).isB F ⟨hs,.inl (by unfold atV;rw [apV_sameQ];omega)⟩ ⟨U,.inl (by unfold atV;rw [apV_sameQ];omega)⟩ h
theorem Wk.leaves {L:List Int} {c:Int} (hg:∀ i (h:i<l.length),0≤l[i].src∧0≤l[i].dst) (hs:L.getD s 0=c) {u:Nat} {m:Int} (h:Wk l iM s u m):
  (L.getD u 0=c∧Wk l (pI l L c) s u m)∨∃ v∈bdL L c l,∃ a b,Wk l (pI l L c) s v.toNat a∧Wk l iM v.toNat u b∧a+b=m:=by
 induction h with
 |nil=>exact .inl ⟨hs,.nil⟩
 | @step m i hi hp _ ih=>
  rcases ih with ⟨h1,h2⟩|⟨v,hv,a,b,h1,h2,h3⟩
  ·by_cases hd:L.getD l[i].dst.toNat 0=c
   ·exact .inl ⟨hd,.step hi (by rw [pI_at hi,lT];exact ⟨h1,hd⟩) h2⟩
   ·exact .inr ⟨l[i].src,kH.2 ⟨_,List.getElem_mem hi,jJ.2 ⟨fun e=>hd (e▸h1),.inl ⟨h1,rfl⟩⟩⟩,m,l[i].wt,h2,Wk.one hi rfl,rfl⟩
  ·exact .inr ⟨v,hv,a,b+l[i].wt,h1,.step hi rfl h2,aA⟩
def bestV (W T:List Int) (B:List Int):Int:=B.foldl (fun b v=>if dg W v.toNat<INF∧dg T v.toNat<INF then min b (dg W v.toNat+dg T v.toNat) else b) INF
theorem bestV_snoc (W T B:List Int) (v:Int):bestV W T (B++[v])=if dg W v.toNat<INF∧dg T v.toNat<INF then min (bestV W T B) (dg W v.toNat+dg T v.toNat) else bestV W T B:=by
 unfold bestV;rw [List.foldl_append];rfl
theorem bestV_is (W T:List Int):∀ (B:List Int) (b0 x:Int),(∀ v∈B,dg W v.toNat<INF→dg T v.toNat<INF→x≤dg W v.toNat+dg T v.toNat)→x≤b0→(b0=x∨∃ v∈B,dg W v.toNat<INF∧dg T v.toNat<INF∧dg W v.toNat+dg T v.toNat≤x)→B.foldl (fun b v=>if dg W v.toNat<INF∧dg T v.toNat<INF then min b (dg W v.toNat+dg T v.toNat) else b) b0=x
 |[],b0,x,_,_,h=>by
  rcases h with h|⟨v,hv,_⟩
  ·exact h
  ·cases hv
 |v::B,b0,x,h1,h2,h3=>by
  rw [List.foldl_cons];have hv:=h1 v (List.mem_cons_self)
  refine bestV_is W T B _ x (fun u F=>h1 u (List.mem_cons_of_mem _ F)) ?_ ?_
  ·split
   ·rename_i h;have:=hv h.1 h.2;omega
   ·exact h2
  ·rcases h3 with rfl|⟨u,F,a,b,e⟩
   ·left
    split
    ·rename_i h;have:=hv h.1 h.2;omega
    ·rfl
   ·rcases List.mem_cons.1 F with rfl|F
    ·left;rw [if_pos ⟨a,b⟩];have:=hv a b;omega
    ·exact .inr ⟨u,F,a,b,e⟩
theorem best_ok {L:List Int} {c:Int} {W T:List Int} {x:Int} (hg:∀ i (h:i<l.length),0≤l[i].src∧l[i].src<(n:Int)∧0≤l[i].dst∧l[i].dst<(n:Int)) (F:∀ x∈l,0≤x.wt) (hs:L.getD s 0=c) (Y:L.getD t 0≠c)
  (O:∀ v,v<n→IsB l (pI l L c) s v (dg W v)) (U:∀ v,v<n→IsB l iM v t (dg T v)) (hx:IsB l iM s t x):bestV W T (bdL L c l)=x:=by
 have J:∀ v∈bdL L c l,v.toNat<n:=fun v hv=>by
  obtain ⟨a,ha,hb⟩:=kH.1 hv
  obtain ⟨j,hj,rfl⟩:=List.mem_iff_getElem.1 ha
  have:=hg j hj
  rcases (jJ.1 hb).2 with ⟨_,e⟩|⟨_,e⟩<;>rw [e]<;>omega
 refine bestV_is W T _ _ _ (fun v hv h1 h2=>?_) hx.le ?_
 ·have hn:=J v hv
  exact hx.min _ ((((O _ hn).walk h1).mono fun _ _=>rfl).trans ((U _ hn).walk h2))
 ·rcases Int.lt_or_le x INF with hlt|X
  ·rcases (hx.walk hlt).leaves (fun i hi=>⟨(hg i hi).1,(hg i hi).2.2.1⟩) hs with ⟨h1,_⟩|⟨v,hv,a,b,h1,h2,h3⟩
   ·exact absurd h1 Y
   ·have hn:=J v hv
    have ha:=h1.nonneg F
    have hb:=h2.nonneg F
    have:=(O _ hn).min _ h1
    have:=(U _ hn).min _ h2
    exact .inr ⟨v,hv,aA,aA,aA⟩
  ·left;have:=hx.le;omega
end Go.Proofs.YthpkelafioikaaaGreat
namespace Go.Proofs.YthpkelafioikaaaGreat
open Go Go.RowKit Fly
set_option maxRecDepth 100000
set_option maxHeartbeats 4000000
set_option linter.all false

theorem arcs_one (l:List Arc):(l.flatMap cH).all (·.oneCell')=true:=by
 induction l with
 |nil=>rfl
 |cons x l ih=>rw [List.flatMap_cons,List.all_append,ih];rfl
theorem CloneA_spec (A:Option Addr) (len:Nat) (cs:List Value) (cap:Nat) (w:World) (hs:Ro (Fr w []) w A cs) (hn:A=none→len=0) (hl:cs.length=len*3) (hone:cs.all (·.oneCell')=true) (U:len≤1000000000):
    Meets Tryz.prog 37 [.slice A len cap] w [] (fun u own' =>∃ m,own' =[m]∧Own 69 3 u len cs m):=by
 refine bG Tryz.func37 rfl Tryz.ntmps37 rfl Owns.nil<|aG fun kh1=>aB 1 rfl<|aD kh1<|aV fun kh2=>aG fun kh3=>aB 1 rfl<|f_Q (o_eqlSl Tryz.underlying22 rfl rfl)<|aD kh3<|e8 rfl (fun c4=>?_) (fun c4=>?_)
 ·obtain rfl:A=none:=by cases A<;>first|rfl|simp at c4
  obtain rfl:len=0:=hn rfl
  obtain rfl:cs=[]:=List.eq_nil_of_length_eq_zero (by simpa using hl)
  refine aG fun F=>aB 1 rfl<|aD F<|aZ<|dA ?_
  exact bO [[]] Tryz.results37 rfl Sub.empty ⟨[],rfl,Own.nil _ _⟩
 ·refine bZ kh2<|aG fun kh5=>f_S (o_slice0 el22 fun X=>?_)
  refine aB 1 rfl<|f_S (pJ el22 rfl rfl (Own.mk (b:=X) (cs:=[]) (len:=0) rfl aA) (ys:=cs) (fun J=>by obtain ⟨b,off,e,Z,hc⟩:=hs J;exact ⟨b,off,e,Seen.rds fun _=>⟨Z,hc⟩⟩) hl hone aA aA fun v7 O Y=>?_)
  refine aB 1 rfl<|aD kh5<|aZ ?_
  exact bO [O] Tryz.results37 rfl (by repeat (first|exact aP|refine aL ?_)) ⟨O,rfl,by simpa using Y⟩
theorem RowsI.snoc {E:TypeId} {F:List (List Int)} {vs:List Value} {ms:List Seg} (h:RowsI E F vs ms) {l:List Int} {v:Value} {m:Seg} (ho:Own E 1 v l.length (a8 l) m):RowsI E (F++[l]) (vs++[v]) (ms++[m]):=
 ⟨by simp [h.lv],by simp [h.lm],fun i hi=>by
  rw [List.length_append,List.length_singleton] at hi;have U:=h.lv
  have X:=h.lm
  by_cases e:i<F.length
  ·have e1 : (F ++ [l])[i]'(by simp; omega) = F[i] := List.getElem_append_left e
   have e2 : (vs ++ [v])[i]'(by simp; omega) = vs[i]'aA := List.getElem_append_left aA
   have O : (ms ++ [m])[i]'(by simp; omega) = ms[i]'aA := List.getElem_append_left aA
   rw [e1,e2,O];exact h.own i e
  ·have J:i=F.length:=aA
   have e1 : (F ++ [l])[i]'(by simp; omega) = l := by subst J; simp
   have e2 : (vs ++ [v])[i]'(by simp; omega) = v := by
    rw [List.getElem_append_right aA];simp
   have O : (ms ++ [m])[i]'(by simp; omega) = m := by
    rw [List.getElem_append_right aA];simp
   rw [e1,e2,O];exact ho⟩
theorem RowsI.one {E:TypeId} {l:List Int} {v:Value} {m:Seg} (ho:Own E 1 v l.length (a8 l) m):RowsI E [l] [v] [m]:=
 ⟨rfl,rfl,fun i hi=>by
  have:i=0:=by simpa using hi
  subst this;exact ho⟩
theorem RowsI.rows {E:TypeId} {F:List (List Int)} {vs:List Value} {ms:List Seg} (h:RowsI E F vs ms):∃ R:List Row,vs=R.map fI∧bJ R=F:=by
 have O:=h.lv
 have key:∀ i,i<F.length→∃ r:Row,(∀ hv:i<vs.length,vs[i]=fI r)∧∀ hi:i<F.length,F[i]=r.2.1:=fun i hi=>by
  obtain ⟨A,c,e,_⟩:=(h.own i hi).val
  exact ⟨(A,F[i],c),fun _=>e,fun _=>rfl⟩
 obtain ⟨R,U,J⟩:=list_of (R:=fun i r=>(∀ hv:i<vs.length,vs[i]=fI r)∧∀ hi:i<F.length,F[i]=r.2.1) key
 refine ⟨R,List.ext_getElem (by simp;omega) fun i h1 h2=>?_,List.ext_getElem (by simp [bJ];omega) fun i h1 h2=>?_⟩
 ·rw [List.getElem_map];exact (J i (by simpa using h2)).1 h1
 ·simp only [bJ,List.getElem_map]
  exact ((J i aA).2 h2).symm
structure RowsCt (E:TypeId) (R:List Row) (ms:List Seg):Prop where
 lm:ms.length=R.length
 own : ∀ (i : Nat) (h : i < R.length), ∃ c, Own E 1 (.slice R[i].1 R[i].2.1.length c) R[i].2.1.length (a8 R[i].2.1) (ms[i]'(lm ▸ h))
def cutVR:Value→Value
 | .slice A n _=> .slice A n n
 |v=>v
theorem RowsI.cut {E:TypeId} {F:List (List Int)} {vs:List Value} {ms:List Seg} (h:RowsI E F vs ms):∃ R:List Row,vs.map cutVR=R.map fI∧bJ R=F∧RowsCt E R ms:=by
 have O:=h.lv
 have X:=h.lm
 have key:∀ i,i<F.length→∃ r:Row,(∀ hv:i<vs.length,cutVR vs[i]=fI r)∧(∀ hi:i<F.length,F[i]=r.2.1)∧∀ hm:i<ms.length,∃ c,Own E 1 (.slice r.1 r.2.1.length c) r.2.1.length (a8 r.2.1) ms[i]:=fun i hi=>by
  have ho:=h.own i hi
  obtain ⟨A,c,e,_⟩:=ho.val
  refine ⟨(A,F[i],F[i].length),fun _=>by rw [e];rfl,fun _=>rfl,fun _=>⟨c,?_⟩⟩;rw [e] at ho;exact ho
 obtain ⟨R,U,J⟩:=list_of (R:=fun i r=>(∀ hv:i<vs.length,cutVR vs[i]=fI r)∧(∀ hi:i<F.length,F[i]=r.2.1)∧∀ hm:i<ms.length,∃ c,Own E 1 (.slice r.1 r.2.1.length c) r.2.1.length (a8 r.2.1) ms[i]) key
 refine ⟨R,List.ext_getElem (by simp;omega) fun i h1 h2=>?_,List.ext_getElem (by simp [bJ];omega) fun i h1 h2=>?_,aA,fun i hi=>(J i aA).2.2 aA⟩
 ·rw [List.getElem_map,List.getElem_map];exact (J i (by simpa using h2)).1 (by simpa using h1)
 ·simp only [bJ,List.getElem_map]
  exact ((J i aA).2.1 h2).symm
theorem RowsCt.nil (E:TypeId):RowsCt E [] []:=⟨rfl,fun i h=>by simp at h⟩
theorem RowsCt.ro {S:Nat→Prop} {w0 w:World} {segs J:List Seg} {E:TypeId} {R:List Row} {ms:List Seg} (X:RowsCt E R ms) (hp:Hp S w0 segs.flatten w) [p3:Pick segs ms.flatten J]:∀ r∈R,Ro (Fr w []) w r.1 (a8 r.2.1)∧r.2.1.length≤9223372036854775807:=fun r hr=>by
 obtain ⟨i,hi,rfl⟩:=List.mem_iff_getElem.1 hr
 obtain ⟨c,ho⟩:=X.own i hi
 refine ⟨?_,by have:=ho.val;obtain ⟨_,_,e,h⟩:=this;cases e;omega⟩;have U:i<ms.length:=by rw [X.lm];exact hi
 have F:Fly.Sub segs (ms[i]::[(ms.eraseIdx i).flatten]):=⟨J.flatten,by
  have:=p3.perm.trans ((gL ms i U).append_right J.flatten)
  simpa using this⟩
 have O:=hp.sub F
 exact fD (ho.seen (segs:=ms[i]::[(ms.eraseIdx i).flatten]) O)
theorem nest_ro {S:Nat→Prop} {w0 w:World} {segs o1 o2 O:List Seg} {Ab Ac:Option Addr} {bs:List Int} {cb cc lc:Nat} {mb mc:Seg} {R:List Row} {ls:List (List Int)} {ms:List Seg} {E E2:TypeId} (hp:Hp S w0 segs.flatten w) (hb:Own E 1 (.slice Ab bs.length cb) bs.length (a8 bs) mb)
  (hc:Own E2 1 (.slice Ac lc cc) lc (R.map fI) mc) (hR:RowsI E ls (R.map fI) ms) (X:bJ R=ls) [p1:Pick segs mb o1] [p2:Pick segs mc o2] [p3:Pick segs ms.flatten O] (Y:R.length≤9223372036854775807):NestRo (Fr w []) w Ab bs Ac R where
 b:=fD (hb.seen hp)
 bl:=by have:=hb.val;obtain ⟨_,_,e,h⟩:=this;cases e;omega
 c:=fD (hc.seen hp)
 cl:=Y
 rows:=fun r hr=>by
  obtain ⟨i,hi,rfl⟩:=List.mem_iff_getElem.1 hr
  subst X;have F:i<(bJ R).length:=by rw [eZ];exact hi
  have ho:=hR.own i F
  have e1 : (R.map fI)[i]'(by simpa using hi) = fI R[i] := aO
  have e2:(bJ R)[i]=R[i].2.1:=by simp [bJ]
  rw [e1,e2] at ho;refine ⟨?_,by have:=ho.val;obtain ⟨_,_,e,h⟩:=this;cases e;omega⟩;have Z:i<ms.length:=by rw [hR.lm];exact F
  have J:Fly.Sub segs (ms[i]::[(ms.eraseIdx i).flatten]):=⟨O.flatten,by
   have:=p3.perm.trans ((gL ms i Z).append_right O.flatten)
   simpa using this⟩
  have U:=hp.sub J
  exact fD (ho.seen (segs:=ms[i]::[(ms.eraseIdx i).flatten]) U)
theorem RowsI.ro {S:Nat→Prop} {w0 w:World} {segs O:List Seg} {E:TypeId} {R:List Row} {ms:List Seg} (Y:RowsI E (bJ R) (R.map fI) ms) (hp:Hp S w0 segs.flatten w) [p3:Pick segs ms.flatten O]:∀ r∈R,Ro (Fr w []) w r.1 (a8 r.2.1)∧r.2.1.length≤9223372036854775807:=fun r hr=>by
 obtain ⟨i,hi,rfl⟩:=List.mem_iff_getElem.1 hr
 have F:i<(bJ R).length:=by rw [eZ];exact hi
 have ho:=Y.own i F
 have e1 : (R.map fI)[i]'(by simpa using hi) = fI R[i] := aO
 have e2:(bJ R)[i]=R[i].2.1:=by simp [bJ]
 rw [e1,e2] at ho;refine ⟨?_,by have:=ho.val;obtain ⟨_,_,e,h⟩:=this;cases e;omega⟩;have X:i<ms.length:=by rw [Y.lm];exact F
 have J:Fly.Sub segs (ms[i]::[(ms.eraseIdx i).flatten]):=⟨O.flatten,by
  have:=p3.perm.trans ((gL ms i X).append_right O.flatten)
  simpa using this⟩
 have U:=hp.sub J
 exact fD (ho.seen (segs:=ms[i]::[(ms.eraseIdx i).flatten]) U)
end Go.Proofs.YthpkelafioikaaaGreat
