import Derived.Test.YthpkelafioikaaaGreatFlyRun
import Derived.Test.YthpkelafioikaaaGreatAll0
import Derived.Shelf.SlSortCmp.Insertion
import Derived.Test.YthpkelafioikaaaGreatFlyD
import Derived.Test.YthpkelafioikaaaGreatFlyMem
import Derived.Shelf.SlSortCmp.WholeK
import Derived.Shelf.SlSortCmp.NoneTotal
import Derived.Shelf.Sort.Plain
import Derived.Shelf.SlLaysF0
import Derived.Test.YthpkelafioikaaaGreatProg
import Derived.Shelf.Slices.In.SortNone
import Derived.Test.YthpkelafioikaaaGreatFlyMap
namespace Go.Proofs.YthpkelafioikaaaGreat
open Go Go.RowKit Go.Sort Fly
set_option linter.unusedVariables false
set_option linter.unusedSimpArgs false
set_option linter.unusedSectionVars false
abbrev Pr:=Int×Int
def fC (p:Pr):List Value:=[.int .i64 p.1,.int .i64 p.2]
theorem eY (p:Pr):(fC p).length=2:=rfl
def ordP (x y:Pr):Int:=if x.1≠y.1 then x.1 - y.1 else x.2 - y.2
abbrev F20:=Fin 1048576×Fin 1048576
def toP (x:F20):Pr:=(((x.1.val:Nat):Int),((x.2.val:Nat):Int))
def ofP (p:Pr):F20:=(⟨p.1.toNat % 1048576,Nat.mod_lt _ (by decide)⟩,⟨p.2.toNat % 1048576,Nat.mod_lt _ (by decide)⟩)
def POk (p:Pr):Prop:=(0≤p.1∧p.1<1048576)∧0≤p.2∧p.2<1048576
theorem to_of {p:Pr} (h:POk p):toP (ofP p)=p:=by
 unfold POk at h
 refine Prod.ext ?_ ?_<;>simp only [toP,ofP]<;>omega
theorem toP_ok (x:F20):POk (toP x):=by
 have h1:=x.1.isLt
 have h2:=x.2.isLt
 unfold POk toP;simp only;omega
theorem to_inj {x y:F20} (h:toP x=toP y):x=y:=by
 have h1:=congrArg Prod.fst h
 have h2:=congrArg Prod.snd h
 simp only [toP] at h1 h2;exact Prod.ext (Fin.ext aA) (Fin.ext aA)
def cfP (x y:F20):Int:=ordP (toP x) (toP y)
def ltX (x y:Pr):Prop:=x.1<y.1∨x.1=y.1∧x.2<y.2
theorem ltF (x y:F20):ltOf cfP x y=decide ((toP x).1<(toP y).1∨(toP x).1=(toP y).1∧(toP x).2<(toP y).2):=by
 unfold ltOf
 apply decide_eq_decide.2
 unfold cfP ordP
 by_cases h1:(toP x).1=(toP y).1
 ·rw [if_neg aA];omega
 ·rw [if_pos h1];omega
theorem swoF:SWO (ltOf cfP) where
 irrefl x:=by rw [ltF,decide_eq_false];omega
 trans x y z h1 h2:=by rw [ltF] at*;simp only [decide_eq_true_eq] at*;omega
 ntrans x y z h1 h2:=by rw [ltF] at*;simp only [decide_eq_false_iff_not] at*;omega
theorem totF (x y:F20) (h1:ltOf cfP x y=false) (h2:ltOf cfP y x=false):x=y:=by
 rw [ltF] at*;simp only [decide_eq_false_iff_not] at*;exact to_inj (Prod.ext aA aA)
theorem sorted_fin (l:List Pr) (hl:∀ p∈l,POk p):∃ l2:List Pr,l2=(((l.map ofP).mergeSort fun x y=> !(ltOf cfP) y x).map toP)∧l2.Perm l∧l2.Pairwise (fun x y=>x=y∨ltX x y):=by
 refine ⟨_,rfl,?_,?_⟩
 ·have h1:=(List.mergeSort_perm (l.map ofP) fun x y=> !(ltOf cfP) y x).map toP
  have h2:(l.map ofP).map toP=l:=by
   rw [List.map_map]
   conv=>rhs;rw [← List.map_id l]
   exact List.map_congr_left fun p hp=>to_of (hl p hp)
  rw [h2] at h1;exact h1
 ·rw [List.pairwise_map]
  refine (List.pairwise_mergeSort (fun a b c h1 h2=>?_) (fun a b=>?_) (l.map ofP)).imp fun {a b} h=>?_
  ·simp only [ltF] at*;simp only [Bool.not_eq_true',decide_eq_false_iff_not] at*;omega
  ·simp only [ltF];simp only [Bool.or_eq_true,Bool.not_eq_true',decide_eq_false_iff_not];omega
  ·simp only [ltF,Bool.not_eq_true',decide_eq_false_iff_not] at h
   unfold ltX
   by_cases e:toP a=toP b
   ·exact .inl e
   ·refine .inr ?_
    by_cases h1:(toP a).1=(toP b).1
    ·by_cases h2:(toP a).2=(toP b).2
     ·exact absurd (Prod.ext h1 h2) e
     ·omega
    ·omega
def allP (n:Nat):List (Int×Int):=(List.range n).flatMap fun a:Nat=>(List.range n).map fun b:Nat=>((Int.ofNat a,Int.ofNat b):Int×Int)
theorem mem_allP {n:Nat} {k:Int×Int}:k∈allP n↔(0≤k.1∧k.1<n)∧0≤k.2∧k.2<n:=by
 unfold allP
 simp only [List.mem_flatMap,List.mem_range,List.mem_map];constructor
 ·rintro ⟨a,ha,b,hb,rfl⟩;simp;omega
 ·rintro ⟨⟨h1,h2⟩,h3,F⟩
  exact ⟨k.1.toNat,aA,k.2.toNat,aA,Prod.ext (by simp;omega) (by simp;omega)⟩
theorem allP_len (n:Nat):(allP n).length=n*n:=by
 unfold allP
 rw [List.length_flatMap];simp [List.map_const']
theorem allP_sorted (n:Nat):(allP n).Pairwise (fun x y=>x.1<y.1∨x.1=y.1∧x.2<y.2):=by
 unfold allP
 rw [List.pairwise_flatMap];refine ⟨fun a _=>?_,?_⟩
 ·rw [List.pairwise_map]
  exact List.pairwise_lt_range.imp fun {x y} h=> .inr ⟨rfl,by simpa using h⟩
 ·refine List.pairwise_lt_range.imp fun {x y} h=>?_
  intro p hp q hq;simp only [List.mem_map] at hp hq;obtain ⟨_,_,rfl⟩:=hp
  obtain ⟨_,_,rfl⟩:=hq
  exact .inl (by simpa using h)
def nH (a:Arc):Pr:=(min a.src a.dst,max a.src a.dst)
def prs (n:Nat) (l:List Arc):List Pr:=(allP n).filter fun p=>l.any fun a=>decide (a.src≠a.dst)&&decide (nH a=p)
def kL (l:List Arc):List Pr:=(l.filter fun a=>decide (a.src≠a.dst)).map nH
theorem qH (n:Nat) (l:List Arc):(prs n l).Pairwise ltX:=(allP_sorted n).filter _
theorem pK {l:List Arc} {p:Pr}:p∈kL l↔∃ a∈l,a.src≠a.dst∧nH a=p:=by
 unfold kL
 simp only [List.mem_map,List.mem_filter,decide_eq_true_eq];constructor
 ·rintro ⟨a,⟨h1,h2⟩,h3⟩;exact ⟨a,h1,h2,h3⟩
 ·rintro ⟨a,h1,h2,h3⟩;exact ⟨a,⟨h1,h2⟩,h3⟩
theorem mem_prs {n:Nat} {l:List Arc} (hg:∀ a∈l,(0≤a.src∧a.src<n)∧0≤a.dst∧a.dst<n) {p:Pr}:p∈prs n l↔p∈kL l:=by
 unfold prs
 rw [List.mem_filter,mem_allP,pK];simp only [List.any_eq_true,Bool.and_eq_true,decide_eq_true_eq];constructor
 ·rintro ⟨_,h⟩;exact h
 ·rintro ⟨a,h1,h2,rfl⟩
  have:=hg a h1
  unfold nH
  exact ⟨by simp only;omega,a,h1,h2,rfl⟩
theorem nodup_X {l:List Pr} (h:l.Pairwise ltX):l.Nodup:=h.imp fun {x y} h e=>by subst e;unfold ltX at h;omega
theorem prs_is {n:Nat} {l:List Arc} (hg:∀ a∈l,(0≤a.src∧a.src<n)∧0≤a.dst∧a.dst<n) {l2:List Pr} (hp:l2.Perm (kL l)) (hs:l2.Pairwise (fun x y=>x=y∨ltX x y)):cpt l2=prs n l:=by
 have h1:(cpt l2).Pairwise ltX:=q8 (R:=ltX) (fun a b c h1 h2=>by unfold ltX at*;omega) (fun a b h e=>by subst e;unfold ltX at h;omega) hs
 refine List.Perm.eq_of_pairwise (le:=ltX) (fun a b _ _ h1 h2=>by unfold ltX at*;exact absurd h1 aA) h1 (qH n l) ?_;refine (List.perm_ext_iff_of_nodup (nodup_X h1) (nodup_X (qH n l))).2 fun p=>?_;rw [oH,mem_prs hg];exact hp.mem_iff
end Go.Proofs.YthpkelafioikaaaGreat
namespace Go.Proofs.YthpkelafioikaaaGreat.Fly
open Go Go.RowKit Go.Sort
set_option linter.unusedVariables false
set_option linter.unusedSimpArgs false
set_option linter.unusedSectionVars false
theorem Hp.grown {w w' :World} {m:Seg} (h:Hp (Fr w []) w m w'):∃ q os',w' =grow (w.drewN q) os' :=by
 refine ⟨w'.drawn - w.drawn,w'.heap.extract w.heap.size w'.heap.size,?_⟩;have h1:=h.drawn
 have h2:=h.size
 have hh:w'.heap=w.heap++w'.heap.extract w.heap.size w'.heap.size:=by
  apply Array.ext_getElem?;intro i
  by_cases hi:i<w.heap.size
  ·rw [Array.getElem?_append_left hi]
   exact h.same i ⟨hi,aN⟩
  ·rw [Array.getElem?_append_right aA,Array.getElem?_extract]
   by_cases hj:i<w'.heap.size
   ·rw [if_pos aA];congr 1;omega
   ·rw [if_neg aA,Array.getElem?_eq_none aA]
 cases w' with
 |mk heap tape drawn os output=>
  have e1:=h.os;have e2:=h.tape;have F:=h.output
  simp only at e1 e2 F h1 hh;subst e1 e2 F;simp only [grow,World.drewN];rw [← hh]
  congr 1
  omega
section
variable {α:Type} [Inhabited α] (enc:α→List Value) (k:Nat) (hk:∀ x,(enc x).length=k)
include hk
theorem flat_len (l:List α):(l.flatMap enc).length=l.length*k:=by
 induction l with
 |nil=>simp
 |cons a l ih=>simp [List.flatMap_cons,ih,hk,Nat.add_mul];omega
theorem flatK_list (l:List α):(flatK enc k l.toArray).toList=l.flatMap enc:=by
 rcases Nat.eq_zero_or_pos k with U|U
 ·subst U
  have h1:(flatK enc 0 l.toArray).toList.length=0:=aN
  have h2:=flat_len enc 0 hk l
  have h3:(l.flatMap enc).length=0:=aA
  rw [List.eq_nil_of_length_eq_zero h1,List.eq_nil_of_length_eq_zero h3]
 apply List.ext_getElem?;intro j
 induction l generalizing j with
 |nil=>simp [flatK]
 |cons a l ih=>
  by_cases hj:j<(l.length+1)*k
  ·have e:(flatK enc k (a::l).toArray).toList[j]? =some ((enc (a::l).toArray[j / k]!)[j % k]!):=by
    simp [flatK,hj]
   rw [e,List.flatMap_cons]
   by_cases J:j<k
   ·rw [List.getElem?_append_left (by rw [hk];exact J),Nat.div_eq_of_lt J,Nat.mod_eq_of_lt J]
    simp [List.getElem?_eq_getElem (show j<(enc a).length by rw [hk];exact J),getElem!_pos,hk,J]
   ·have F:k≤j:=aA
    rw [List.getElem?_append_right (by rw [hk];exact F),hk,← ih (j - k)];have O:j - k<l.length*k:=by rw [Nat.add_mul] at hj;omega
    have e' :(flatK enc k l.toArray).toList[j - k]? =some ((enc l.toArray[(j - k) / k]!)[(j - k) % k]!):=by
     simp [flatK,O]
    rw [e']
    have hd:j / k=(j - k) / k+1:=by
     rw [← Nat.div_eq_sub_div U F]
    have hm:j % k=(j - k) % k:=Nat.mod_eq_sub_mod F
    rw [hd,hm];simp
  ·rw [List.getElem?_eq_none (by simp;omega),List.getElem?_eq_none (by rw [flat_len enc k hk];simp;omega)]
end
theorem putCells_id (F:Array Value) (cs sp:List Value) (h:cs.length=F.size):(putCells id 0 F (cs++sp).toArray).toList=F.toList++sp:=by
 apply List.ext_getElem?;intro j;rw [Array.getElem?_toList];simp only [putCells,Array.getElem?_mapIdx,List.getElem?_toArray]
 by_cases hj:j<F.size
 ·rw [List.getElem?_append_left aA,List.getElem?_append_left (by simpa using hj)]
  simp [hj,h]
 ·rw [List.getElem?_append_right aA,List.getElem?_append_right (by simp;omega)]
  simp only [Array.length_toList,h];cases sp[j - F.size]? <;>simp [hj]
theorem meets_sortF {P:Program} {ρ:Go.Shelf.Ren} (L:SlLaysF0.n6 P ρ) {E:TypeId} (k:Nat) (aE:∀ w,(isAgg (ρ.t 24)).run P w= .ok true w) (zE:∀ w,(Go.sizeOf (ρ.t 24)).run P w= .ok k w)
  {α:Type} [Inhabited α] (enc:α→List Value) (hk:∀ x,(enc x).length=k) (h1:∀ x,∀ v∈enc x,v.oneCell' =true) (J:α→α→Int) (hO:SWO (ltOf J)) (hT:∀ x y,(ltOf J) x y=false→(ltOf J) y x=false→x=y)
  (g:Nat) (eg:∀ args w,(callFunc g args).run P w= .ok (.enter g args) w) (Y:∀ x y W,Meets P g [.agg (enc x).toArray,.agg (enc y).toArray] W [] (fun v _=>v= .int .i64 (J x y)))
  (A:Option Addr) (cap:Nat) (l:List α) (m:Seg) (w:World) (ho:Own E k (.slice A l.length cap) l.length (l.flatMap enc) m) (hl:l.length<4611686018427387904) (hw:Owns w [m]):
  Meets P (ρ.f 6) [.slice A l.length cap,.func (.func g) #[] #[]] w [m] (fun u own' =>u= .tuple #[]∧∃ m',own' =[m']∧Own E k (.slice A l.length cap) l.length ((l.mergeSort fun x y=> !(ltOf J) y x).flatMap enc) m'):=by
 have ab:=ho
 obtain ⟨h0,h|⟨b,c,sp,e,rfl,ae,h2,h3⟩⟩:=ab
 ·obtain ⟨e,aa,rfl⟩:=h
  obtain rfl:l=[]:=List.eq_nil_of_length_eq_zero aa
  refine Calls.mono (AnyF.slices_SortFunc_none L A cap _ w) ?_;rintro _ _ ⟨rfl,rfl⟩;exact ⟨_,[[]],rfl,Hp.start hw,rfl,[],rfl,by simpa using ho⟩
 ·cases e
  have hb:w.heap[b]? =some (blk (l.flatMap enc++sp) E):=hw.there b _ aN
  have hlt:b<w.heap.size:=by
   rcases Nat.lt_or_ge b w.heap.size with h' |h'
   ·exact h'
   ·rw [Array.getElem?_eq_none h'] at hb;cases hb
  have ac:=flatK_list enc k hk l
  have hlen:=flat_len enc k hk l
  have hH:HoldsK enc k w b 0 l.toArray:=by
   intro j hj;have ad:j<(l.flatMap enc).length:=by rw [hlen];simpa using hj
   refine ⟨?_,by simp [World.frozen?,hb]⟩;have hg:(flatK enc k l.toArray)[j]? =(l.flatMap enc)[j]? :=by rw [← ac];simp
   have:(l.flatMap enc++sp)[j]? =some (flatK enc k l.toArray)[j]! :=by
    rw [List.getElem?_append_left ad,← hg];simp at hj;simp [hj]
   simp [World.cell?,hb,this]
  have hc:CmpLays P g #[] enc k J b 0 l.toArray.size w:=by
   intro m os dk _ x y;refine Calls.mono (Y x y _) ?_;rintro _ w' ⟨v,own',rfl,hp,rfl⟩;exact ⟨rfl,hp.grown⟩
  have F:=AnyQ.slices_SortFunc_total L k aE zE enc hk h1 J hO g #[] b 0 cap l.toArray w eg hc hH hlt (by simpa using hl) hT
  simp only [List.size_toArray] at F;refine Calls.mono F ?_;rintro _ _ ⟨rfl,n,os,rfl⟩;have O:(l.mergeSort fun x y=> !(ltOf J) y x).length=l.length:=List.length_mergeSort l
  generalize (l.mergeSort fun x y=> !(ltOf J) y x)=L2 at O ⊢
  have U:=flat_len enc k hk L2
  have X:(sortWorldK enc k w b 0 n L2.toArray os).heap[b]? =some (blk (L2.flatMap enc++sp) E):=by
   unfold sortWorldK putRowK
   rw [heap_grow_old _ _ (by simpa using hlt)]
   have:(putCells id 0 (flatK enc k L2.toArray) (l.flatMap enc++sp).toArray)=(L2.flatMap enc++sp).toArray:=by
    rw [← Array.toList_inj,putCells_id _ _ _ (by rw [hlen];simp [O]),flatK_list enc k hk]
   simp [putRow,mapBlock,Sort.ahead,Array.getElem?_modify,hb,onCells,this]
  have Z:∀ j,j<w.heap.size→j≠b→(sortWorldK enc k w b 0 n L2.toArray os).heap[j]? =w.heap[j]? :=fun j hj hne=>by
   unfold sortWorldK putRowK
   rw [heap_grow_old _ _ (by simpa using hj)];have:b≠j:=fun e=>hne e.symm
   simp [putRow,mapBlock,Sort.ahead,Array.getElem?_modify,this]
  refine ⟨.tuple #[],[[(b,blk (L2.flatMap enc++sp) E)]],rfl,?_,rfl,_,rfl,⟨by rw [U,O],.inr ⟨b,cap,sp,rfl,rfl,ae,h2,h3⟩⟩⟩;refine ⟨rfl,rfl,rfl,by simp [sortWorldK,putRowK,grow],by simp [sortWorldK,putRowK,grow,putRow,mapBlock,Sort.ahead],fun j hj=>hj.1,fun j hj=>Z j hj.1 fun e=>hj.2 (by subst e;simp),fun j o hm=>?_,fun j o hm hj=>hj.2 (by simp at hm;obtain ⟨rfl,_⟩:=hm;simp),aN⟩;simp only [List.flatten_cons,List.flatten_nil,List.append_nil,List.mem_singleton,Prod.mk.injEq] at hm;obtain ⟨rfl,rfl⟩:=hm
  exact X
end Go.Proofs.YthpkelafioikaaaGreat.Fly
namespace Go.Proofs
open Go.Shelf
def Tryz.laysPr_ren:Go.Shelf.Ren:=⟨fun|6=>131|15=>60|14=>166|28=>105|29=>106|20=>180|21=>181|22=>182|23=>183|24=>184|25=>185|26=>186|27=>187|46=>194|47=>144|48=>145|49=>195|50=>196|57=>199|n=>n,fun|22=>154|24=>215|25=>216|3=>3|39=>118|0=>0|53=>56|55=>45|4=>4|46=>177|45=>176|50=>144|5=>5|9=>9|66=>238|70=>242|76=>280|77=>281|n=>n,fun|n=>n⟩
theorem Tryz.laysPr:Go.Proofs.SlLaysF0.n6 Tryz.prog Tryz.laysPr_ren:={
 mixed:=by kernel_rfl
 f6:=⟨Tryz.f131.name,by decide,Tryz.func131.trans (congrArg some (by kernel_rfl))⟩
 f14:=⟨Tryz.f166.name,by decide,Tryz.func166.trans (congrArg some (by kernel_rfl))⟩
 f15:=Tryz.func60.trans (congrArg some (by kernel_rfl))
 f20:=⟨Tryz.f180.name,by decide,Tryz.func180.trans (congrArg some (by kernel_rfl))⟩
 f21:=⟨Tryz.f181.name,by decide,Tryz.func181.trans (congrArg some (by kernel_rfl))⟩
 f22:=⟨Tryz.f182.name,by decide,Tryz.func182.trans (congrArg some (by kernel_rfl))⟩
 f23:=⟨Tryz.f183.name,by decide,Tryz.func183.trans (congrArg some (by kernel_rfl))⟩
 f24:=⟨Tryz.f184.name,by decide,Tryz.func184.trans (congrArg some (by kernel_rfl))⟩
 f25:=⟨Tryz.f185.name,by decide,Tryz.func185.trans (congrArg some (by kernel_rfl))⟩
 f26:=⟨Tryz.f186.name,by decide,Tryz.func186.trans (congrArg some (by kernel_rfl))⟩
 f27:=⟨Tryz.f187.name,by decide,Tryz.func187.trans (congrArg some (by kernel_rfl))⟩
 f28:=Tryz.func105.trans (congrArg some (by kernel_rfl))
 f29:=Tryz.func106.trans (congrArg some (by kernel_rfl))
 f46:=⟨Tryz.f194.name,by decide,Tryz.func194.trans (congrArg some (by kernel_rfl))⟩
 f47:=Tryz.func144.trans (congrArg some (by kernel_rfl))
 f48:=Tryz.func145.trans (congrArg some (by kernel_rfl))
 f49:=⟨Tryz.f195.name,by decide,Tryz.func195.trans (congrArg some (by kernel_rfl))⟩
 f50:=⟨Tryz.f196.name,by decide,Tryz.func196.trans (congrArg some (by kernel_rfl))⟩
 f57:=⟨Tryz.f199.name,by decide,Tryz.func199.trans (congrArg some (by kernel_rfl))⟩
 t0:=Tryz.underlying0
 a0:=Tryz.isAgg0
 z0:=Tryz.sizeOf0
 v0:=Tryz.zeroValue0
 t3:=Tryz.underlying3
 a3:=Tryz.isAgg3
 z3:=Tryz.sizeOf3
 v3:=Tryz.zeroValue3
 t4:=Tryz.underlying4
 a4:=Tryz.isAgg4
 z4:=Tryz.sizeOf4
 v4:=Tryz.zeroValue4
 t5:=Tryz.underlying5
 a5:=Tryz.isAgg5
 z5:=Tryz.sizeOf5
 v5:=Tryz.zeroValue5
 t9:=Tryz.underlying9
 a9:=Tryz.isAgg9
 z9:=Tryz.sizeOf9
 v9:=Tryz.zeroValue9
 t22:=Tryz.underlying154
 a22:=Tryz.isAgg154
 z22:=Tryz.sizeOf154
 v22:=Tryz.zeroValue154
 t25:=Tryz.underlying216
 a25:=Tryz.isAgg216
 z25:=Tryz.sizeOf216
 v25:=Tryz.zeroValue216
 t39:=Tryz.underlying118
 a39:=Tryz.isAgg118
 z39:=Tryz.sizeOf118
 v39:=Tryz.zeroValue118
 t45:=Tryz.underlying176
 a45:=Tryz.isAgg176
 z45:=Tryz.sizeOf176
 v45:=Tryz.zeroValue176
 t46:=Tryz.underlying177
 a46:=Tryz.isAgg177
 z46:=Tryz.sizeOf177
 v46:=Tryz.zeroValue177
 t50:=Tryz.underlying144
 a50:=Tryz.isAgg144
 z50:=Tryz.sizeOf144
 v50:=Tryz.zeroValue144
 t53:=Tryz.underlying56
 a53:=Tryz.isAgg56
 z53:=Tryz.sizeOf56
 v53:=Tryz.zeroValue56
 t55:=Tryz.underlying45
 a55:=Tryz.isAgg45
 z55:=Tryz.sizeOf45
 v55:=Tryz.zeroValue45
 t66:=Tryz.underlying238
 a66:=Tryz.isAgg238
 z66:=Tryz.sizeOf238
 v66:=Tryz.zeroValue238
 t70:=Tryz.underlying242
 a70:=Tryz.isAgg242
 z70:=Tryz.sizeOf242
 v70:=Tryz.zeroValue242
 t76:=Tryz.underlying280
 a76:=Tryz.isAgg280
 z76:=Tryz.sizeOf280
 v76:=Tryz.zeroValue280
 t77:=Tryz.underlying281
 a77:=Tryz.isAgg281
 z77:=Tryz.sizeOf281
 v77:=Tryz.zeroValue281 }
end Go.Proofs
namespace Go.Proofs.YthpkelafioikaaaGreat
set_option maxRecDepth 100000
set_option maxHeartbeats 4000000
open Go Go.RowKit Fly
set_option linter.unusedVariables false
set_option linter.unusedSimpArgs false
set_option linter.unusedSectionVars false
section
variable {α:Type} [DecidableEq α]
theorem cptk_put {l d : List α} {i j : Nat} (hj : j < l.length) (J : i < j) (hd : d.length = l.length) (O : d.take i = cpt (l.take j)) (F : d.drop (j - 1) = l.drop (j - 1)) (hne : l[j] ≠ l[j - 1]'aA) :
  (d.set i l[j]).take (i+1)=cpt (l.take (j+1))∧(d.set i l[j]).drop j=l.drop j:=by
 refine ⟨?_,?_⟩
 ·rw [mE aA hj,if_neg (fun e=>hne e.symm),← O,List.take_succ_eq_append_getElem (show i<(d.set i l[j]).length by simp;omega),List.getElem_set_self,List.take_set_of_le (Nat.le_refl _)]
 ·rw [List.drop_set_of_lt J]
  have:=congrArg (List.drop 1) F
  rw [List.drop_drop,List.drop_drop,show j - 1+1=j by omega] at this;exact this
theorem cptk_pass {l d : List α} {i j : Nat} (hj : j < l.length) (J : 0 < j) (O : d.take i = cpt (l.take j)) (F : d.drop (j - 1) = l.drop (j - 1)) (he : l[j] = l[j - 1]'aA) : d.take i = cpt (l.take (j + 1)) ∧ d.drop j = l.drop j := by
 refine ⟨by rw [mE J hj,if_pos he.symm];exact O,?_⟩;have:=congrArg (List.drop 1) F
 rw [List.drop_drop,List.drop_drop,show j - 1+1=j by omega] at this;exact this
theorem dropk_get {l d : List α} {i j : Nat} (hd : d.length = l.length) (h : d.drop i = l.drop i) (F : i ≤ j) (hj : j < l.length) : d[j]'aA = l[j] := by
 have:=congrArg (fun x=>x[j - i]?) h
 simp only [List.getElem?_drop,show i+(j - i)=j by omega] at this;rw [List.getElem?_eq_getElem aA,List.getElem?_eq_getElem hj] at this;exact Option.some.inj this
theorem cptk_zero {enc:α→List Value} {sz:Nat} (hs:∀ x,(enc x).length=sz) {d:List α} {i:Nat} (hi:i≤d.length) (sp ys:List Value) (hy:ys.length=(d.length - i)*sz):jF (d.flatMap enc++sp) (i*sz) ys=(d.take i).flatMap enc++(ys++sp):=by
 have e:d.flatMap enc++sp=(d.take i).flatMap enc++((d.drop i).flatMap enc++sp):=by rw [← List.append_assoc,← List.flatMap_append,List.take_append_drop]
 rw [e];exact kQ ys _ _ _ _ (by rw [dO enc hs,List.length_take,Nat.min_eq_left hi]) (by rw [dO enc hs,hy,List.length_drop])
end
theorem eqPr (x y:Pr) (w:World):(Op.equalIn 10000 215 (.agg (fC x).toArray) (.agg (fC y).toArray)).run Tryz.prog w= .ok (decide (x=y)) w:=by
 have hf:Tryz.prog.fieldsOf 215=(match Tryz.prog.underlying 215 with|some (.struct fs)=>fs|_=> #[]):=rfl
 rw [Tryz.underlying215] at hf;rw [run_equalIn_struct (P:=Tryz.prog) w 9999 215 _ _ (by rw [hf];exact Tryz.underlying215) Tryz.stoodInHeld215,hf];obtain ⟨a,b⟩:=x
 obtain ⟨F,b'⟩:=y
 have J:∀ (k k' :IntKind) (p q:Int) (T:TypeId) (v:World),Tryz.prog.underlying T=some (.int k')→(Op.equalIn 9999 T (.int k p) (.int k q)).run Tryz.prog v= .ok (p==q) v:=fun k k' p q T v h=>run_equalIn_int v 9998 T k k' p q h
 simp only [Op.eqFields,fC,part,Sem.run_bind,Sem.run_ite,Tryz.isAgg3,Result.andThen_ok,Sem.run_pure,ne_eq,Bool.false_eq_true,if_false];simp [J _ _ _ _ _ _ Tryz.underlying3]
 by_cases h1:a=F<;>by_cases h2:b=b' <;>simp [h1,h2]
theorem raw_next {l:List Arc} {i:Nat} (hi:i<l.length):kL (l.take (i+1))=kL (l.take i)++(if l[i].src≠l[i].dst then [nH l[i]] else []):=by
 unfold kL
 rw [List.take_succ_eq_append_getElem hi,List.filter_append,List.map_append]
 congr 1
 by_cases h:l[i].src=l[i].dst<;>simp [h]
theorem raw_len (l:List Arc):(kL l).length≤l.length:=by
 unfold kL;rw [List.length_map];exact List.length_filter_le _ _
theorem raw_good {n:Nat} {l:List Arc} (hg:∀ k (hk:k<l.length),0≤l[k].src∧l[k].src<(n:Int)∧0≤l[k].dst∧l[k].dst<(n:Int)):∀ a∈l,(0≤a.src∧a.src<n)∧0≤a.dst∧a.dst<n:=fun a ha=>by
 obtain ⟨k,hk,rfl⟩:=List.mem_iff_getElem.1 ha
 have:=hg k hk
 omega
theorem raw_ok {n:Nat} {l:List Arc} (hn:n≤1024) (hg:∀ k (hk:k<l.length),0≤l[k].src∧l[k].src<(n:Int)∧0≤l[k].dst∧l[k].dst<(n:Int)):∀ p∈kL l,POk p:=fun p hp=>by
 obtain ⟨a,ha,_,rfl⟩:=pK.1 hp
 have:=raw_good hg a ha
 unfold POk nH
 simp only;omega
theorem flat_toP (l:List F20):l.flatMap (fun x=>fC (toP x))=(l.map toP).flatMap fC:=by rw [List.flatMap_map]
theorem order_spec (x y:Pr) (w:World) (hx:POk x) (hy:POk y):Meets Tryz.prog 132 [.agg (fC x).toArray,.agg (fC y).toArray] w [] (fun u _=>u= .int .i64 (ordP x y)):=by
 unfold POk at hx hy
 refine bE Tryz.func132 rfl Tryz.ntmps132 rfl Owns.nil<|aG fun kh1=>f_S (cT rfl rfl fun O=>?_)
 refine f_S (cT rfl rfl fun J=>?_);refine aB 1 rfl<|aD kh1<|aS fun kh2=>aG fun kh3=>cL lS rfl<|cX Tryz.isAgg3 rfl (rdA rfl)<|cL lS rfl<|cX Tryz.isAgg3 rfl (rdA rfl)<|aB 1 rfl<|aD kh3<|aX rfl (fun c9=>?_) (fun c9=>?_)
 ·refine aG fun F=>cL lS rfl<|cX Tryz.isAgg3 rfl (rdA rfl)<|cL lS rfl<|cX Tryz.isAgg3 rfl (rdA rfl)<|f_Q (jC rfl rfl)<|aB 1 rfl<|aD F<|aY<|cV ?_
  exact bJ [] Tryz.results132 rfl aP (by rw [ordP,if_pos c9])
 ·refine bV kh2<|aG fun kh5=>cL oF rfl<|cX Tryz.isAgg3 rfl (rdA rfl)<|cL oF rfl<|cX Tryz.isAgg3 rfl (rdA rfl)<|f_Q (jC rfl rfl)<|aB 1 rfl<|aD kh5<|aY ?_
  exact bJ [] Tryz.results132 rfl aP (by rw [ordP,if_neg c9])
theorem SortPr_spec (A:Option Addr) (cap:Nat) (l:List Pr) (m:Seg) (w:World) (hp:∀ p∈l,POk p) (ho:Own 215 2 (.slice A l.length cap) l.length (l.flatMap fC) m) (hl:l.length<4611686018427387904) (hw:Owns w [m]):
  Meets Tryz.prog 131 [.slice A l.length cap,.func (.func 132) #[] #[]] w [m] (fun u own' =>u= .tuple #[]∧∃ (m' :Seg) (l2:List Pr),own' =[m']∧l2.Perm l∧l2.Pairwise (fun x y=>x=y∨ltX x y)∧Own 215 2 (.slice A l2.length cap) l2.length (l2.flatMap fC) m'):=by
 obtain ⟨l2,e2,F,U⟩:=sorted_fin l hp
 have O:(l.map ofP).map toP=l:=by
  rw [List.map_map]
  conv=>rhs;rw [← List.map_id l]
  exact List.map_congr_left fun p h=>to_of (hp p h)
 have h:=meets_sortF Tryz.laysPr (E:=215) 2 Tryz.isAgg215 Tryz.sizeOf215 (fun x:F20=>fC (toP x)) (fun x=>eY _) (fun x v hv=>by simp [fC] at hv;rcases hv with rfl|rfl<;>rfl) cfP swoF totF 132 Tryz.call132
  (fun x y W=>order_spec (toP x) (toP y) W (toP_ok x) (toP_ok y)) A cap (l.map ofP) m w (by rw [flat_toP,O,List.length_map];exact ho) (by rw [List.length_map];exact hl) hw
 rw [List.length_map] at h;refine h.mono ?_;rintro u own' ⟨X,m',e,J⟩;rw [flat_toP,← e2] at J;exact ⟨X,m',l2,e,F,U,by rw [F.length_eq];exact J⟩
theorem CompactPr_spec (A:Option Addr) (cap:Nat) (l:List (Pr)) (m:Seg) (w:World) (ho:Own 215 2 (.slice A l.length cap) l.length (l.flatMap fC) m) (hl:l.length≤1000000000) (hw:Owns w [m]):
    Meets Tryz.prog 134 [.slice A l.length cap] w [m] (fun u own' =>∃ m',own' =[m']∧Own 215 2 u (cpt l).length ((cpt l).flatMap fC) m'):=by
 refine bE Tryz.func134 rfl Tryz.ntmps134 rfl hw<|aG fun kh1=>aB 1 rfl<|aD kh1<|aS fun kh2=>aG fun kh3=>aB 1 rfl<|dU h7 rfl<|aB 1 rfl<|aD kh3<|aX rfl (fun c8=>?_) (fun c8=>?_)
 ·
  have Y:cpt l=l:=by
    match l,c8 with
    |[],_=>rfl
    |[x],_=>rfl
    |x::y::r,h=>simp at h;omega
  refine aG fun ak=>aB 2 rfl<|aD ak<|aY<|cV ?_
  exact bJ [m] Tryz.results134 rfl (aM aP) ⟨m,rfl,by rw [Y];exact ho⟩
 ·
  obtain ⟨b,sp,rfl,rfl,ar⟩:=ho.upd aA
  obtain ⟨_,_,e_,am⟩:=ho.val
  cases e_
  have ad:sp.length=(cap - l.length)*2:=by
    obtain ⟨_,h|⟨b',c',aj,e,hm,_,_,h3⟩⟩:=ho
    · omega
    · cases e
      have:=List.append_cancel_left (Array.toList_inj.2 (show (l.flatMap fC++sp).toArray=(l.flatMap fC++aj).toArray by simpa using hm))
      rw [this];exact h3
  refine bV kh2<|aS fun kh5=>aG fun ah=>aB 1 rfl<|aD ah<|aR ?_
  refine lU (α:=Nat) [0] (fun k=>[(3,.int .i64 (k:Int))]) (fun k=>1≤k∧k≤l.length∧cpt (l.take k)=l.take k) (fun k=>l.length - k) (1) ?_ ?_ ?_
  · exact aF
  · exact ⟨Nat.le_refl _,aA,cpt_one aA⟩
  ·
   rintro k ⟨aq,an,X⟩;refine aS fun ai=>aG fun kh8=>aB 2 rfl<|dU h7 rfl<|aB 1 rfl<|aD kh8<|aX rfl (fun c13=>?_) (fun c13=>?_)
   ·
    have hk:k<l.length:=aA
    refine bV ai<|aS fun kh9=>aR<|aS fun kh10=>gV rfl aW<|dI 2 rfl<|dB (aL h7 rfl rfl (k*2))<|dB (aO (vs:=fC l[k]) Tryz.isAgg215 Tryz.sizeOf215 rfl rfl (jL eY hk))<|dI 2 rfl<|dB (jC rfl rfl) ?_
    refine dB (aL h7 rfl rfl ((k - 1)*2))<|dB (aO (vs:=fC l[k - 1]) Tryz.isAgg215 Tryz.sizeOf215 rfl rfl (jL eY aA))<|dB (o_eqlA Tryz.eqGuardType215 (eqPr l[k] (l[k - 1])) rfl rfl)<|eI<|bO kh10<|aX rfl (fun c25=>?_) (fun c25=>?_)
    ·
     refine aG fun kh11=>aB 2 rfl<|f_Q (f7 h7 rfl rfl rfl rfl (fun h=>by cases h) k _ _ (.inr ⟨_,_,rfl,aA⟩) (.inl ⟨rfl,rfl⟩) (.inl ⟨rfl,rfl⟩) ⟨aA,aA,aA⟩ (.slice (some ⟨b,k*2,none⟩) (l.length - k) (cap - k)) (by rw [if_neg aA];simp [dG])) ?_
     refine aB 1 rfl<|aD kh11<|aS fun kh12=>aG fun Z=>aB 1 rfl<|aD Z<|aR ?_
     refine dA (α:=Nat×Nat×List (Pr)) [0,4] (fun ⟨q,i,d⟩=>[(5,.int .i64 (q:Int)),(3,.int .i64 (i:Int))]) (fun ⟨q,i,d⟩=>[[(b,blk (d.flatMap fC++sp) 215)]]) (fun ⟨q,i,d⟩=>1≤q∧k+q≤l.length∧i<k+q∧d.length=l.length∧d.take i=cpt (l.take (k+q))∧d.drop (k+q - 1)=l.drop (k+q - 1)) (fun ⟨q,i,d⟩=>l.length - (k+q)) (1,k,l) ?_ ?_ ?_ ?_
     · exact aF
     · exact aC
     · exact ⟨Nat.le_refl _,aA,aA,rfl,by rw [mE aA hk,if_pos c25.symm,X],rfl⟩
     ·
      rintro ⟨q,i,d⟩ ⟨ap,ao,ab,F,J,O⟩;refine fF (e:=[(5,_),(3,_),(0,_),(4,_)]) aF ?_;refine aS fun ae=>aG fun kh15=>aB 2 rfl<|dU h7 rfl<|aB 1 rfl<|aD kh15<|aX rfl (fun c32=>?_) (fun c32=>?_)
      ·
       have U:k+q<l.length:=aA
       have aa:=dropk_get F O (j:=k+q) aA U
       have al:=dropk_get F O (j:=k+q - 1) (Nat.le_refl _) aA
       refine bV ae<|aS fun kh16=>aR<|aS fun kh17=>gV rfl aW<|dI 2 rfl<|dB (aL h7 rfl rfl ((k+q)*2))<|dB (aO (vs:=fC l[k+q]) Tryz.isAgg215 Tryz.sizeOf215 rfl rfl (by rw [← aa];exact jL eY aA)) ?_
       refine dI 2 rfl<|dB (jC rfl rfl)<|dB (aL h7 rfl rfl ((k+q - 1)*2))<|dB (aO (vs:=fC l[k+q - 1]) Tryz.isAgg215 Tryz.sizeOf215 rfl rfl (by rw [← al];exact jL eY aA)) ?_
       refine dB (o_neqA Tryz.eqGuardType215 (eqPr l[k+q] (l[k+q - 1])) rfl rfl)<|eI<|bO kh17<|aX rfl (fun c44=>?_) (fun c44=>?_)
       ·
        refine aG fun ac=>aB 4 rfl<|f_Q (aL h7 rfl rfl ((k+q)*2))<|f_Q (aO (vs:=fC l[k+q]) Tryz.isAgg215 Tryz.sizeOf215 rfl rfl (by rw [← aa];exact jL eY aA)) ?_
        refine f_Q (aL h7 rfl rfl (i*2))<|f_Z (bP Tryz.sizeOf215 rfl rfl rfl rfl (by show i*2+2≤_;rw [List.length_append,dO fC eY];omega) ((d.set i l[k+q]).flatMap fC++sp) (jU eY sp _ _ _ aA) ?_)
        refine aD ac<|aI<|aB 1 rfl<|f_Q (a8 rfl rfl)<|aB 1 rfl<|aZ<|dF<|bO kh16<|aI<|aB 1 rfl ?_
        refine f_Q (a8 rfl rfl)<|aB 1 rfl<|aZ ?_
        refine cS (a6 (q+1,i+1,d.set i l[k+q]) (by first|omega|(dsimp only;omega)|(simp;omega)) ⟨aA,aA,aA,by simpa using F,(cptk_put U ab F J O c44).1,(cptk_put U ab F J O c44).2⟩ ?_ ?_ ?_)
        · exact aF
        · exact aF
        · exact aC
       ·
        refine dY<|dF<|bO kh16<|aI<|aB 1 rfl<|f_Q (a8 rfl rfl)<|aB 1 rfl<|aZ ?_
        refine cS (a6 (q+1,i,d) (by first|omega|(dsimp only;omega)|(simp;omega)) ⟨aA,aA,aA,F,(cptk_pass U aA J O (by simpa using c44)).1,(cptk_pass U aA J O (by simpa using c44)).2⟩ ?_ ?_ ?_)
        · exact aF
        · exact aF
        · exact aC
      ·
       refine cN<|cO<|cO<|eC<|bO kh12<|aS fun kh19=>?_
       obtain rfl:q=l.length - k:=aA
       rw [show k+(l.length - k)=l.length by omega,List.take_length] at J;have ag:(cpt l).length=i:=by rw [← J];simp;omega
       refine aI<|aB 2 rfl<|f_Q (f7 h7 rfl rfl rfl rfl (fun h=>by cases h) i _ _ (.inr ⟨_,_,rfl,aA⟩) (.inl ⟨rfl,rfl⟩) (.inl ⟨rfl,rfl⟩) ⟨aA,aA,aA⟩ (.slice (some ⟨b,i*2,none⟩) (l.length - i) (cap - i)) (by rw [if_neg aA];simp [dG])) ?_
       refine f_Z (o_clear el154 rfl rfl (by rw [List.length_append,dO fC eY];omega) ((d.take i).flatMap fC++((List.replicate (l.length - i) [.int .i64 0,.int .i64 0]).flatten++sp)) (cptk_zero eY aA sp _ (by rw [F];simp)) ?_);refine aD kh19<|aG fun kh20=>aB 2 rfl<|f_Q (f7 h7 rfl rfl rfl rfl (fun h=>by cases h) 0 i cap (.inl ⟨rfl,rfl⟩) (.inr ⟨_,_,rfl,aA⟩) (.inl ⟨rfl,rfl⟩) ⟨aA,aA,aA⟩ (.slice (some ⟨b,0,none⟩) i cap) (by rw [if_neg aA];simp [dG])) ?_
       refine aB 1 rfl<|aD kh20<|aY<|fA<|cV<|cV<|fA<|cV ?_
       exact bJ [[(b,blk ((d.take i).flatMap fC++((List.replicate (l.length - i) [.int .i64 0,.int .i64 0]).flatten++sp)) 215)]] Tryz.results134 rfl (by repeat (first|exact aP|refine aM ?_)) ⟨_,rfl,by rw [ag,← J];exact ⟨by rw [dO fC eY,List.length_take,Nat.min_eq_left aA],.inr ⟨b,cap,_,rfl,rfl,aA,aA,by rw [List.length_append,ad];simp;omega⟩⟩⟩
    ·
     refine dY<|dF<|bO kh9<|aI<|aB 1 rfl<|f_Q (a8 rfl rfl)<|aB 1 rfl<|aZ ?_
     refine cS (a6 (k+1) (by first|omega|(dsimp only;omega)|(simp;omega)) ⟨aA,aA,by rw [mE aA hk,if_neg (fun e=>c25 e.symm),X,← List.take_succ_eq_append_getElem hk]⟩ ?_ ?_ ?_)
     · exact aF
     · exact aF
     · exact aC
   ·
    refine cN<|cO<|cO<|eC<|bO kh5<|aG fun kh21=>aB 2 rfl<|aD kh21<|aY ?_
    have Y:cpt l=l:=by rw [List.take_of_length_le aA] at X;exact X
    exact bJ [[(b,blk (l.flatMap fC++sp) 215)]] Tryz.results134 rfl (by repeat (first|exact aP|refine aM ?_)) ⟨_,rfl,by rw [Y];exact ho⟩
theorem ClipPr_spec (A:Option Addr) (len cap:Nat) (w:World) (h:len≤cap) (hm:cap≤9223372036854775807) (hA:A=none→len=0):
    Meets Tryz.prog 133 [.slice A len cap] w [] (fun u m=>u= .slice A len len∧m=[]):=by
 refine bE Tryz.func133 rfl Tryz.ntmps133 rfl Owns.nil<|aG fun kh1=>aB 1 rfl<|aD kh1<|aG fun kh2=>aB 2 rfl<|dU h7 rfl<|aB 1 rfl<|dU h7 rfl<|f_Q (f7 h7 rfl rfl rfl rfl (fun _=>rfl) 0 len len (.inl ⟨rfl,rfl⟩) (.inr ⟨_,_,rfl,aA⟩) (.inr ⟨_,_,rfl,aA⟩) ⟨aA,aA,aA⟩ (.slice A len len) (by rw [Nat.sub_zero];congr 1;split;rfl;cases A with|none=>rfl|some x=>obtain ⟨p,q,r⟩:=x;cases r<;>simp [Addr.add])) ?_
 refine aB 1 rfl<|aD kh2<|aY ?_
 exact bJ [] Tryz.results133 rfl aP ⟨rfl,rfl⟩
theorem pairs_spec (n:Nat) (A:Option Addr) (l:List Arc) (cap:Nat) (w:World) (hr:Ro (Fr w []) w A (l.flatMap bZ)) (hg:(cG (n:Int) l).2=0):
    Meets Tryz.prog 142 [.agg #[.int .i64 (n:Int),.slice A l.length cap]] w [] (fun u own' =>∃ A' m',u= .slice A' (prs n l).length (prs n l).length∧own' =[m']∧∃ c,Own 215 2 (.slice A' (prs n l).length c) (prs n l).length ((prs n l).flatMap fC) m'):=by
 obtain ⟨am,an,hlen,Z⟩:=bS hg
 refine bE Tryz.func142 rfl Tryz.ntmps142 rfl Owns.nil<|aG fun kh1=>f_S (cT rfl rfl fun b1=>?_)
 refine aB 1 rfl<|aD kh1<|aG fun kh2=>aB 1 rfl<|aD kh2<|aS fun kh3=>aG fun aj=>cL fT rfl<|cX Tryz.isAgg22 rfl (rdA rfl)<|dU jB rfl ?_
 refine aB 1 rfl<|aD aj<|aR ?_
 refine dA (α:=Nat×Value×Seg) [7,8] (fun ⟨i,U,O⟩=>[(9,.int .i64 (i:Int)),(3,U)]) (fun ⟨i,U,O⟩=>[O,[(b1,blk [.int .i64 (n:Int),.slice A l.length cap] 24)]]) (fun ⟨i,U,O⟩=>i≤l.length∧Own 215 2 U (kL (l.take i)).length ((kL (l.take i)).flatMap fC) O) (fun ⟨i,U,O⟩=>l.length - i) (0,.slice none 0 0,[]) ?_ ?_ ?_ ?_
 ·exact aF
 ·exact aC
 ·exact ⟨aA,Own.nil _ _⟩
 ·rintro ⟨i,U,O⟩ ⟨ao,F⟩;have ak:=raw_len (l.take i)
  rw [List.length_take] at ak;refine aG fun kh5=>aB 1 rfl<|aD kh5<|aS fun kh6=>aX rfl (fun ab=>?_) (fun ab=>?_)
  ·have hi:i<l.length:=aA
   obtain ⟨bq,off,rfl,hS,hc⟩:=hr (eX bZ dD aA hi)
   refine bV kh6<|aS fun kh7=>aR<|aG fun kh8=>f_Q (aL jB rfl rfl (off+i*3))<|f_Q (aO (vs:=bZ l[i]) Tryz.isAgg69 Tryz.sizeOf69 rfl rfl (f8 dD hS hc hi))<|f_S (cQ Tryz.zeroValue69 rfl fun b5=>?_)
   refine f_Z (bP Tryz.sizeOf69 rfl rfl rfl rfl cF (bZ l[i]) rfl ?_);refine aD kh8<|aG fun kh9=>cL fY rfl<|cX Tryz.isAgg3 rfl (rdA rfl)<|cL fO rfl<|cX Tryz.isAgg3 rfl (rdA rfl)<|aB 1 rfl<|aD kh9<|aX rfl (fun c17=>?_) (fun c17=>?_)
   ·have hq:kL (l.take (i+1))=kL (l.take i)++[nH l[i]]:=by rw [raw_next hi,if_pos c17]
    refine aI<|aB 1 rfl<|cL fY rfl<|cX Tryz.isAgg3 rfl (rdA rfl)<|cL fO rfl<|cX Tryz.isAgg3 rfl (rdA rfl)<|f_Q (o_min rfl rfl)<|cL fY rfl<|cX Tryz.isAgg3 rfl (rdA rfl)<|cL fO rfl ?_
    refine cX Tryz.isAgg3 rfl (rdA rfl)<|f_Q (o_max rfl rfl)<|f_Q (dL (cs:=fC (nH l[i])) st215 rfl rfl)<|f_S (bQ el154 aA rfl rfl rfl fun b30=>?_)
    refine f_S (dE el154 rfl rfl F (ys:=fC (nH l[i])) ⟨(rdA rfl),(rdA rfl),trivial⟩ rfl rfl aA aA fun ai aa ac=>?_);refine aB 1 rfl<|aZ<|dF<|bO kh7<|aI<|f_Q (a8 rfl rfl)<|aB 1 rfl<|aZ ?_
    refine cS (a6 (i+1,ai,aa) (by first|omega|(dsimp only;omega)|(simp;omega)) ⟨aA,by rw [hq,List.length_append,List.flatMap_append];simpa using ac⟩ ?_ ?_ ?_)
    ·exact aF
    ·exact aF
    ·exact aC
   ·have hq:kL (l.take (i+1))=kL (l.take i):=by rw [raw_next hi,if_neg c17,List.append_nil]
    refine dY<|dF<|bO kh7<|aI<|f_Q (a8 rfl rfl)<|aB 1 rfl<|aZ ?_
    refine cS (a6 (i+1,U,O) (by first|omega|(dsimp only;omega)|(simp;omega)) ⟨aA,by rw [hq];exact F⟩ ?_ ?_ ?_)
    ·exact aF
    ·exact aF
    ·exact aC
  ·refine cN<|cO<|cO<|eC<|bO kh3<|aS fun kh10=>?_
   obtain rfl:i=l.length:=aA
   rw [List.take_length] at F;have al:=raw_len l
   obtain ⟨Ao,co,rfl,aq⟩:=F.val
   have hok:∀ p∈kL l,POk p:=raw_ok aA Z
   refine aI<|aB 1 rfl ?_
   refine f_S (d4 [O] _ Tryz.call131 rfl (by repeat (first|exact Sub.refl|refine aM ?_)) (fun w_ hp_=>SortPr_spec Ao co (kL l) O w_ hok F aA hp_.owns) ?_);rintro _ _ ⟨rfl,m2,l2,rfl,X,ad,ah⟩;have ae:=X.length_eq
   have ag:=prs_is (n:=n) (raw_good Z) X ad
   rw [← ae];dsimp only [aK,aJ];refine aD kh10<|aG fun kh11=>aB 1 rfl ?_
   refine f_S (d4 [m2] _ Tryz.call134 rfl (by repeat (first|exact Sub.refl|refine aM ?_)) (fun w_ hp_=>CompactPr_spec Ao co l2 m2 w_ ah aA hp_.owns) ?_);rintro ap _ ⟨m3,rfl,J⟩;rw [ag] at J;obtain ⟨A3,c3,rfl,Y⟩:=J.val
   dsimp only [aK,aJ];refine f_S (aV Tryz.call133 rfl (fun w_ hp_=>ClipPr_spec A3 (prs n l).length c3 w_ Y.1 Y.2 (j5 J)) ?_);rintro _ _ ⟨rfl,rfl⟩;dsimp only [aK,aJ];refine aB 1 rfl<|aD kh11<|aY ?_
   exact bJ [m3] Tryz.results142 rfl (by repeat (first|exact aP|refine aM ?_|refine cE rfl ?_)) ⟨A3,m3,rfl,rfl,c3,J⟩
end Go.Proofs.YthpkelafioikaaaGreat
namespace Go.Proofs.YthpkelafioikaaaGreat
open Go Go.RowKit Fly
set_option maxRecDepth 100000
set_option maxHeartbeats 4000000
set_option linter.all false
def rgo:Int→List Int→Bool
 |_,[]=>true
 |n,l::r=>if l<0∨n<l then false else rgo (if l=n then n+1 else n) r
def eH (N:Int) (L:List Int):Bool:=rgo 0 L&&decide ((L.length:Int)=N)
theorem rgo_drop {L:List Int} {k:Nat} (hk:k<L.length) (n:Int):rgo n (L.drop k)=if L[k]<0∨n<L[k] then false else rgo (if L[k]=n then n+1 else n) (L.drop (k+1)):=by
 rw [← List.getElem_cons_drop hk];rfl
theorem rgo_end {L:List Int} {k:Nat} (hk:L.length≤k) (n:Int):rgo n (L.drop k)=true:=by
 rw [List.drop_eq_nil_of_le hk];rfl
theorem rgo_pos:∀ {L:List Int} {n:Int},rgo n L=true→∀ x∈L,0≤x
 |[],_,_,x,hx=>by cases hx
 |l::r,n,h,x,hx=>by
  unfold rgo at h
  split at h
  ·cases h
  ·rcases List.mem_cons.1 hx with rfl|hx
   ·omega
   ·exact rgo_pos h x hx
theorem rgo_lt:∀ {L:List Int} {n:Int},rgo n L=true→∀ x∈L,x<n+L.length
 |[],_,_,x,hx=>by cases hx
 |l::r,n,h,x,hx=>by
  unfold rgo at h
  split at h
  ·cases h
  ·rcases List.mem_cons.1 hx with rfl|hx
   ·simp only [List.length_cons];omega
   ·have:=rgo_lt h x hx
    simp only [List.length_cons]
    split at this<;>omega
def j8 (L:List Int) (p:Pr):Bool:=decide (L.getD p.1.toNat 0≠L.getD p.2.toNat 0)
def q7 (n:Nat) (l:List Arc) (L:List Int):Nat:=((prs n l).filter (j8 L)).length
def fN (N:Int) (l:List Arc) (L:List Int):Int×Int:=
 if (cG N l).2≠0 then (0,(cG N l).2) else if eH N L=false then (0,80) else ((q7 N.toNat l L:Int),0)
theorem i6 {n:Nat} {l:List Arc} {p:Pr} (h:p∈prs n l):(0≤p.1∧p.1<n)∧0≤p.2∧p.2<n:=mem_allP.1 (List.mem_filter.1 h).1
theorem prs_len {n:Nat} (hn:n≤1024) (l:List Arc):(prs n l).length≤1048576:=by
 unfold prs
 refine Nat.le_trans (List.length_filter_le _ _) ?_;rw [allP_len];exact Nat.le_trans (Nat.mul_le_mul hn hn) (by decide)
theorem oR {α:Type} {q:α→Bool} {l:List α} {i:Nat} (hi:i<l.length):((l.take (i+1)).filter q).length=((l.take i).filter q).length+(if q l[i] then 1 else 0):=by
 rw [List.take_succ_eq_append_getElem hi,List.filter_append,List.length_append]
 congr 1
 by_cases h:q l[i]<;>simp [h]
def e9 (L:List Int):Int:=L.foldl max (L.headD 0)
theorem max_next {L:List Int} {k:Nat} (hk:k<L.length):(L.take (k+1)).foldl max (L.headD 0)=max ((L.take k).foldl max (L.headD 0)) L[k]:=by
 rw [List.take_succ_eq_append_getElem hk,List.foldl_append];rfl
theorem max_one {L:List Int} (h:0<L.length):(L.take 1).foldl max (L.headD 0)=L[0]:=by
 cases L with
 |nil=>simp at h
 |cons x r=>simp
theorem foldl_max_ge:∀ (L:List Int) (a:Int),a≤L.foldl max a∧∀ x∈L,x≤L.foldl max a
 |[],a=>⟨Int.le_refl _,fun x hx=>by cases hx⟩
 |y::L,a=>by
  obtain ⟨h1,h2⟩:=foldl_max_ge L (max a y)
  simp only [List.foldl_cons];refine ⟨aA,fun x hx=>?_⟩
  rcases List.mem_cons.1 hx with rfl|hx
  ·omega
  ·exact h2 x hx
theorem foldl_max_le:∀ (L:List Int) (a b:Int),a≤b→(∀ x∈L,x≤b)→L.foldl max a≤b
 |[],a,b,h,_=>h
 |y::L,a,b,h,hx=>foldl_max_le L (max a y) b (by have:=hx y aN;omega) fun x hm=>hx x (by simp [hm])
theorem iI {L:List Int} {x:Int} (h:x∈L):x≤e9 L:=(foldl_max_ge L _).2 x h
theorem mU {L:List Int} {b:Int} (F:0<L.length) (h:∀ x∈L,x≤b):e9 L≤b:=by
 refine foldl_max_le L _ b ?_ h
 cases L with
 |nil=>simp at F
 |cons x r=>exact h x aN
def cnt (L:List Int) (j:Nat):Nat:=(L.filter fun x=>decide (x=Int.ofNat j)).length
def szs (M:Nat) (L:List Int):List Int:=(List.range M).map fun j=>(cnt L j:Int)
theorem gO (M:Nat) (L:List Int):(szs M L).length=M:=by simp [szs]
theorem kP {M : Nat} {L : List Int} {j : Nat} (h : j < M) : (szs M L)[j]'(by rw [gO]; exact h) = (cnt L j : Int) := by simp [szs]
theorem szs_nil (M:Nat):szs M []=List.replicate M 0:=by
 apply List.ext_getElem (by simp [szs]);intro i h1 h2;rw [kP (by simpa [szs] using h1)];simp [cnt]
theorem cnt_next {L:List Int} {k:Nat} (hk:k<L.length) (j:Nat):cnt (L.take (k+1)) j=cnt (L.take k) j+(if L[k]=Int.ofNat j then 1 else 0):=by
 unfold cnt;rw [oR hk];simp
theorem szs_next {M:Nat} {L:List Int} {k v:Nat} (hk:k<L.length) (hv:L[k]=(v:Int)) (F:v<M):szs M (L.take (k+1))=(szs M (L.take k)).set v ((cnt (L.take k) v:Int)+1):=by
 apply List.ext_getElem (by simp [szs]);intro i h1 h2;have hi:i<M:=by simpa [szs] using h1
 rw [kP hi,List.getElem_set];rw [cnt_next hk,hv]
 by_cases e:v=i
 ·subst e;simp
 ·have e' :¬ ((v:Int)=Int.ofNat i):=by show ¬ ((v:Int)=(i:Int));omega
  simp only [if_neg e,if_neg e',kP hi,Nat.add_zero]
theorem cnt_le (L:List Int) (j:Nat):cnt L j≤L.length:=List.length_filter_le _ _
def dZ (L:List Int):List Int:=szs (e9 L+1).toNat L
theorem right_spec (N:Int) (A B:Option Addr) (ln cap:Nat) (L:List Int) (cb:Nat) (w:World) (hL:Ro (Fr w []) w B (bF L)) (hm:L.length≤9223372036854775807):
    Meets Tryz.prog 151 [.agg #[.int .i64 N,.slice A ln cap],.slice B L.length cb] w [] (fun u m=>u= .bool (eH N L)∧m=[]):=by
 refine bE Tryz.func151 rfl Tryz.ntmps151 rfl Owns.nil<|aG fun kh1=>f_S (cT rfl rfl fun b2=>?_)
 refine aB 1 rfl<|aD kh1<|aG fun kh2=>aB 1 rfl<|aD kh2<|aS fun kh3=>aG fun Z=>aB 1 rfl<|dU bX rfl<|aB 1 rfl ?_
 refine aD Z<|aR ?_
 refine lU (α:=Nat×Int) [1,2,8,9] (fun ⟨k,q⟩=>[(10,.int .i64 (k:Int)),(5,.int .i64 q)]) (fun ⟨k,q⟩=>k≤L.length∧0≤q∧q≤k∧rgo 0 L=rgo q (L.drop k)) (fun ⟨k,q⟩=>L.length - k) (0,0) ?_ ?_ ?_
 ·exact aF
 ·exact ⟨aA,aA,aA,by rw [List.drop_zero]⟩
 ·rintro ⟨k,q⟩ ⟨aa,ac,ab,J⟩;refine aG fun kh5=>aB 1 rfl<|aD kh5<|aS fun kh6=>aX rfl (fun U=>?_) (fun U=>?_)
  ·have hk:k<L.length:=aA
   obtain ⟨bb,ob,rfl,X,Y⟩:=hL (fun e=>by have:=a7 L;rw [e] at this;simp at this;omega)
   have F:=rgo_drop hk q
   refine bV kh6<|aS fun kh7=>aR<|aG fun kh8=>f_Q (aL bX rfl rfl (ob+k))<|f_Q (aH Tryz.isAgg3 rfl (d3 (enc:=(.int .i64 ·)) X Y hk))<|aB 1 rfl<|aD kh8<|aS fun kh9=>aG fun kh10=>?_
   refine aB 3 rfl<|d8 16 rfl (fun g16=>?_) (fun g16=>?_)
   ·refine aB 4 rfl<|aD kh10<|fI rfl<|aG fun kh11=>aB 1 rfl<|aD kh11<|aY<|cV<|fA<|cV ?_
    refine cV<|fA<|cV ?_
    have e:eH N L=false:=by rw [eH,J,F,if_pos (.inl g16)];rfl
    exact bJ [] Tryz.results151 rfl aP ⟨by rw [e],rfl⟩
   ·refine aB 4 rfl<|aD kh10<|aX rfl (fun c20=>?_) (fun c20=>?_)
    ·refine aG fun O=>aB 1 rfl<|aD O<|aY<|cV<|fA<|cV<|cV<|fA<|cV ?_
     have e:eH N L=false:=by rw [eH,J,F,if_pos (.inr aA)];rfl
     exact bJ [] Tryz.results151 rfl aP ⟨by rw [e],rfl⟩
    ·refine bV kh9<|aG fun kh13=>aB 3 rfl<|aD kh13<|aX rfl (fun c23=>?_) (fun c23=>?_)
     ·rw [if_neg aA,if_pos c23] at F;refine aI<|aB 1 rfl<|f_Q (a8 rfl rfl)<|aB 1 rfl<|aZ<|dF<|bO kh7<|aI<|f_Q (a8 rfl rfl)<|aB 1 rfl ?_
      refine aZ ?_;refine cS (a6 (k+1,q+1) (by first|omega|(dsimp only;omega)|(simp;omega)) ⟨aA,aA,aA,J.trans F⟩ ?_ ?_ ?_)
      ·exact aF
      ·exact aF
      ·exact aC
     ·rw [if_neg aA,if_neg c23] at F;refine dY<|dF<|bO kh7<|aI<|f_Q (a8 rfl rfl)<|aB 1 rfl<|aZ ?_
      refine cS (a6 (k+1,q) (by first|omega|(dsimp only;omega)|(simp;omega)) ⟨aA,aA,aA,J.trans F⟩ ?_ ?_ ?_)
      ·exact aF
      ·exact aF
      ·exact aC
  ·refine cN<|cO<|cO<|eC<|bO kh3<|aG fun kh14=>aB 1 rfl<|dU bX rfl<|cL eT rfl<|cX Tryz.isAgg3 rfl (rdA rfl) ?_
   refine aB 2 rfl<|aD kh14<|aY ?_
   have e:eH N L=decide ((L.length:Int)=N):=by rw [eH,J,rgo_end aA];rfl
   exact bJ [] Tryz.results151 rfl aP ⟨by rw [e],rfl⟩
theorem Count_spec (N:Int) (A B:Option Addr) (l:List Arc) (cap:Nat) (L:List Int) (cb:Nat) (w:World) (hr:Ro (Fr w []) w A (l.flatMap bZ)) (hl:l.length≤9223372036854775807) (hN:I64 N) (hok:∀ x∈l,eK x) (hL:Ro (Fr w []) w B (bF L)) (hm:L.length≤9223372036854775807):
    Meets Tryz.prog 115 [.agg #[.int .i64 N,.slice A l.length cap],.slice B L.length cb] w [] (fun u m=>u= .tuple #[.int .i64 (fN N l L).1,.int .i64 (fN N l L).2]∧m=[]):=by
 refine bE Tryz.func115 rfl Tryz.ntmps115 rfl Owns.nil<|aG fun kh1=>f_S (cT rfl rfl fun b2=>?_)
 refine aB 2 rfl<|aD kh1<|aS fun kh2=>aG fun kh3=>f_Q (aO (vs:=[_,_]) Tryz.isAgg24 Tryz.sizeOf24 rfl rfl ⟨(rdA rfl),(rdA rfl),trivial⟩) ?_
 refine f_S (aV Tryz.call20 rfl (fun Z F=>f3 N A l cap Z (hr.up0 F) hl hN hok) ?_);rintro _ _ ⟨rfl,rfl⟩;dsimp only [aK,aJ];refine aB 5 rfl<|aD kh3<|aG fun kh4=>aB 2 rfl<|aD kh4<|aX rfl (fun c17=>?_) (fun c17=>?_)
 ·refine aG fun ad=>aB 3 rfl<|aD ad<|aY<|cV ?_
  have e:fN N l L=(0,(cG N l).2):=if_pos c17
  exact cZ [] Tryz.results115 rfl rfl aP ⟨by rw [e],rfl⟩
 ·have X:(cG N l).2=0:=by simpa using c17
  obtain ⟨aj,an,_,ar⟩:=bS X
  refine bV kh2<|aS fun kh6=>aG fun kh7=>f_Q (aO (vs:=[_,_]) Tryz.isAgg24 Tryz.sizeOf24 rfl rfl ⟨(rdA rfl),(rdA rfl),trivial⟩)<|aB 1 rfl ?_
  refine f_S (aV Tryz.call151 rfl (fun Z F=>right_spec N A B l.length cap L cb Z (hL.up0 F) hm) ?_);rintro _ _ ⟨rfl,rfl⟩;dsimp only [aK,aJ];refine aB 1 rfl<|aD kh7<|eO rfl (fun c22=>?_) (fun c22=>?_)
  ·refine aG fun ai=>aB 2 rfl<|aD ai<|aY<|cV ?_
   have e:fN N l L=(0,80):=by rw [fN,if_neg c17,if_pos (by simpa using c22)]
   exact cZ [] Tryz.results115 rfl rfl aP ⟨by rw [e],rfl⟩
  ·have O:eH N L=true:=by simpa using c22
   obtain ⟨n,rfl⟩:∃ n:Nat,N=(n:Int):=⟨N.toNat,aA⟩
   have hg:(cG (n:Int) l).2=0:=X
   have ak:L.length=n:=by unfold eH at O;simp at O;omega
   refine bV kh6<|aG fun kh9=>aB 1 rfl<|aD kh9<|aS fun kh10=>aG fun U=>f_Q (aO (vs:=[_,_]) Tryz.isAgg24 Tryz.sizeOf24 rfl rfl ⟨(rdA rfl),(rdA rfl),trivial⟩) ?_
   refine f_S (aV Tryz.call142 rfl (fun Z F=>pairs_spec n A l cap Z (hr.up0 F) hg) ?_);rintro _ _ ⟨A',mp,rfl,rfl,cp,ah⟩;have am:=prs_len (n:=n) aA l
   dsimp only [aK,aJ];refine dU h7 rfl<|aB 1 rfl<|aD U<|aR ?_
   refine dA (α:=Nat) [1,24,25] (fun i=>[(26,.int .i64 (i:Int)),(8,.int .i64 ((((prs n l).take i).filter (j8 L)).length:Int))]) (fun i=>[mp]) (fun i=>i≤(prs n l).length) (fun i=>(prs n l).length - i) (0) ?_ ?_ ?_ ?_
   ·exact aF
   ·exact aC
   ·exact Nat.zero_le _
   ·rintro i ao;have ap:(((prs n l).take i).filter (j8 L)).length≤i:=Nat.le_trans (List.length_filter_le _ _) (by rw [List.length_take];omega)
    refine aG fun kh12=>aB 1 rfl<|aD kh12<|aS fun kh13=>aX rfl (fun ae=>?_) (fun ae=>?_)
    ·have hi:i<(prs n l).length:=aA
     obtain ⟨bp,aq,rfl,rfl⟩:=ah.at_ aA
     have al:=i6 (List.getElem_mem hi)
     obtain ⟨bb,ob,rfl,Y,aa⟩:=hL (fun e=>by have:=a7 L;rw [e] at this;simp at this;omega)
     have ab:(prs n l)[i].1.toNat<L.length:=aA
     have ac:(prs n l)[i].2.toNat<L.length:=aA
     have ag:j8 L (prs n l)[i]=decide (L[(prs n l)[i].1.toNat]≠L[(prs n l)[i].2.toNat]):=by unfold j8;rw [List.getD_eq_getElem?_getD,List.getD_eq_getElem?_getD,List.getElem?_eq_getElem ab,List.getElem?_eq_getElem ac];rfl
     have J:=oR (q:=j8 L) hi
     rw [ag] at J;refine bV kh13<|aS fun kh14=>aR<|aG fun kh15=>f_Q (aL h7 rfl rfl (i*2))<|f_Q (aO (vs:=fC (prs n l)[i]) Tryz.isAgg215 Tryz.sizeOf215 rfl rfl (jL eY hi))<|f_S (cQ Tryz.zeroValue215 rfl fun b10=>?_)
     refine f_Z (bP Tryz.sizeOf215 rfl rfl rfl rfl cF (fC (prs n l)[i]) rfl ?_);refine aD kh15<|aS fun kh16=>gV rfl aW<|dI 1 rfl<|dB (aT lS rfl)<|gC Tryz.isAgg3 rfl (rdA rfl)<|dB (aL bX rfl rfl (ob+(prs n l)[i].1.toNat))<|dB (aH Tryz.isAgg3 rfl (d3 (enc:=(.int .i64 ·)) Y aa ab))<|dI 1 rfl<|dB (aT oF rfl) ?_
     refine gC Tryz.isAgg3 rfl (rdA rfl)<|dB (aL bX rfl rfl (ob+(prs n l)[i].2.toNat))<|dB (aH Tryz.isAgg3 rfl (d3 (enc:=(.int .i64 ·)) Y aa ac))<|dI 1 rfl<|eI<|bO kh16<|aX rfl (fun c40=>?_) (fun c40=>?_)
     ·rw [if_pos (by simpa using c40)] at J;refine aI<|aB 1 rfl<|f_Q (lA rfl rfl _ (Eq.trans (d7 aA) (show _=((((prs n l).take (i+1)).filter (j8 L)).length:Int) by omega))) ?_
      refine aB 1 rfl<|aZ<|dF<|bO kh14<|aI<|f_Q (a8 rfl rfl)<|aB 1 rfl<|aZ ?_
      refine cS (a6 (i+1) (by first|omega|(dsimp only;omega)|(simp;omega)) aA ?_ ?_ ?_)
      ·exact aF
      ·exact aF
      ·exact aC
     ·rw [if_neg (by simpa using c40),Nat.add_zero] at J;refine f_reC 8 rfl (v:= .int .i64 ((((prs n l).take (i+1)).filter (j8 L)).length:Int)) (by rw [J];rfl) ?_;refine dY<|dF<|bO kh14<|aI<|f_Q (a8 rfl rfl)<|aB 1 rfl<|aZ ?_
      refine cS (a6 (i+1) (by first|omega|(dsimp only;omega)|(simp;omega)) aA ?_ ?_ ?_)
      ·exact aF
      ·exact aF
      ·exact aC
    ·refine cN<|cO<|cO<|eC<|bO kh10<|aG fun kh17=>aB 3 rfl<|aD kh17<|aY ?_
     have e:fN (n:Int) l L=((q7 n l L:Int),0):=by rw [fN,if_neg (by rw [hg];simp),if_neg (by rw [O];simp)];rfl
     obtain rfl:i=(prs n l).length:=aA
     rw [e];exact cZ [] Tryz.results115 rfl rfl aP ⟨by rw [q7,List.take_length],rfl⟩
theorem nV (B:Option Addr) (L:List Int) (cb:Nat) (w:World) (hL:Ro (Fr w []) w B (bF L)) (Z:0<L.length) (hm:L.length≤9223372036854775807):
    Meets Tryz.prog 87 [.slice B L.length cb] w [] (fun u m=>u= .int .i64 (e9 L)∧m=[]):=by
 obtain ⟨bb,Y,rfl,J,F⟩:=hL (fun e=>by have:=a7 L;rw [e] at this;simp at this;omega)
 refine bE Tryz.func87 rfl Tryz.ntmps87 rfl Owns.nil<|aG fun kh1=>aB 1 rfl<|aD kh1<|aS fun kh2=>aG fun O=>aB 1 rfl<|dU bX rfl<|aB 1 rfl<|aD O ?_
 refine dX rfl aA<|bV kh2<|aG fun kh4=>aB 1 rfl<|f_Q (aL bX rfl rfl (Y+0))<|f_Q (aH Tryz.isAgg3 rfl (d3 (enc:=(.int .i64 ·)) J F Z))<|aB 1 rfl<|aD kh4<|aS fun kh5=>aS fun X=>?_
 refine f_reC 3 rfl (v:= .int .i64 ((L.take 1).foldl max (L.headD 0))) (by rw [max_one Z]) ?_;refine aI<|aB 1 rfl<|aD X<|aR ?_
 refine lU (α:=Nat) [0] (fun k=>[(4,.int .i64 (k:Int)),(3,.int .i64 ((L.take k).foldl max (L.headD 0)))]) (fun k=>1≤k∧k≤L.length) (fun k=>L.length - k) (1) ?_ ?_ ?_
 ·exact aF
 ·exact ⟨aA,aA⟩
 ·rintro k ⟨ab,aa⟩;refine aS fun U=>aG fun kh8=>aB 2 rfl<|dU bX rfl<|aB 1 rfl<|aD kh8<|aX rfl (fun c15=>?_) (fun c15=>?_)
  ·have hk:k<L.length:=aA
   refine bV U<|aS fun kh9=>aR<|aI<|aB 3 rfl<|f_Q (aL bX rfl rfl (Y+k))<|f_Q (aH Tryz.isAgg3 rfl (d3 (enc:=(.int .i64 ·)) J F hk))<|f_Q (o_max rfl rfl)<|aB 1 rfl<|aZ ?_
   refine dF<|bO kh9<|f_reC 3 rfl (v:= .int .i64 ((L.take (k+1)).foldl max (L.headD 0))) (by rw [max_next hk]) ?_
   refine aI<|aB 1 rfl<|f_Q (a8 rfl rfl)<|aB 1 rfl<|aZ ?_
   refine cS (a6 (k+1) (by first|omega|(dsimp only;omega)|(simp;omega)) ⟨aA,aA⟩ ?_ ?_ ?_)
   ·exact aF
   ·exact aF
   ·exact aC
  ·refine cN<|cO<|cO<|eC<|bO kh5<|aG fun kh10=>aB 2 rfl<|aD kh10<|aY ?_
   exact bJ [] Tryz.results87 rfl aP ⟨by rw [List.take_of_length_le aA];rfl,rfl⟩
theorem p9 (B:Option Addr) (L:List Int) (cb:Nat) (w:World) (hL:Ro (Fr w []) w B (bF L)) (J:0<L.length) (hm:L.length≤1024) (hp:∀ x∈L,0≤x∧x<1024):
    Meets Tryz.prog 88 [.slice B L.length cb] w [] (fun u own' =>∃ b,u= .slice (some ⟨b,0,none⟩) (e9 L+1).toNat (e9 L+1).toNat∧own' =[[(b,blk (bF (dZ L)) 3)]]):=by
 have ad:0≤e9 L:=Int.le_trans (hp L[0] (List.getElem_mem J)).1 (iI (List.getElem_mem J))
 have ah:e9 L≤1023:=mU J fun x hx=>by have:=hp x hx;omega
 obtain ⟨M,hM⟩:∃ M:Nat,e9 L+1=(M:Int):=⟨(e9 L+1).toNat,aA⟩
 rw [dZ,show (e9 L+1).toNat=M by omega];refine bE Tryz.func88 rfl Tryz.ntmps88 rfl Owns.nil<|aG fun kh1=>aB 1 rfl<|aD kh1<|aG fun kh2=>aB 1 rfl ?_
 refine f_S (aV Tryz.call87 rfl (fun w_ Z=>nV B L cb w_ (hL.up0 Z) J aA) ?_);rintro _ _ ⟨rfl,rfl⟩;dsimp only [aK,aJ];refine f_Q (lA rfl rfl _ (show IntKind.i64.wrap (e9 L+1)=(M:Int) from by rw [d7 aA];omega)) ?_;refine f_S (eZ eL rfl rfl M rfl aA aA (bF (szs M [])) (by rw [szs_nil];simp [bF,List.flatten_replicate_singleton]) fun O=>?_);refine aB 1 rfl<|aD kh2<|aS fun kh3=>aG fun ab=>aB 1 rfl<|dU bX rfl<|aB 1 rfl<|aD ab<|aR ?_
 refine dA (α:=Nat) [3,10,11] (fun k=>[(12,.int .i64 (k:Int))]) (fun k=>[[(O,blk (bF (szs M (L.take k))) 3)]]) (fun k=>k≤L.length) (fun k=>L.length - k) (0) ?_ ?_ ?_ ?_
 ·exact aF
 ·exact aC
 ·exact Nat.zero_le _
 ·rintro k ac;refine aG fun kh5=>aB 1 rfl<|aD kh5<|aS fun kh6=>aX rfl (fun X=>?_) (fun X=>?_)
  ·have hk:k<L.length:=aA
   obtain ⟨bb,ob,rfl,Y,aa⟩:=hL (fun e=>by have:=a7 L;rw [e] at this;simp at this;omega)
   have ag:=hp L[k] (List.getElem_mem hk)
   have ae:=iI (List.getElem_mem hk)
   obtain ⟨v,hv⟩:∃ v:Nat,L[k]=(v:Int):=⟨L[k].toNat,aA⟩
   have F:v<M:=aA
   have U:=cnt_le (L.take k) v
   rw [List.length_take] at U;refine bV kh6<|aS fun kh7=>aR<|aG fun kh8=>f_Q (aL bX rfl rfl (ob+k))<|f_Q (aH Tryz.isAgg3 rfl (show Rd _ _ _ _ _ (.int .i64 (v:Int)) by rw [← hv];exact d3 (enc:=(.int .i64 ·)) Y aa hk)) ?_
   refine aB 1 rfl<|aD kh8<|aI<|aB 2 rfl<|f_Q (aL bX rfl rfl (v))<|f_Q (aH Tryz.isAgg3 rfl (rdA (v:= .int .i64 (cnt (L.take k) v:Int)) (by rw [eG (by rw [gO];exact F),kP F]))) ?_
   refine f_Q (a8 rfl rfl)<|f_Q (aL bX rfl rfl (v))<|f_Z (bU Tryz.sizeOf3 rfl rfl rfl rfl (by rw [a7,gO];omega) (bF (szs M (L.take (k+1)))) (by rw [szs_next hk hv F];simp [bF]) ?_)
   refine aZ<|dF<|bO kh7<|aI<|f_Q (a8 rfl rfl)<|aB 1 rfl<|aZ ?_
   refine cS (a6 (k+1) (by first|omega|(dsimp only;omega)|(simp;omega)) aA ?_ ?_ ?_)
   ·exact aF
   ·exact aF
   ·exact aC
  ·refine cN<|cO<|cO<|eC<|bO kh3<|aG fun kh9=>aB 2 rfl<|aD kh9<|aY ?_
   rw [List.take_of_length_le aA];exact bJ [[(O,blk (bF (szs M L)) 3)]] Tryz.results88 rfl (by repeat (first|exact aP|refine aM ?_|refine cE rfl ?_)) ⟨O,rfl,rfl⟩
end Go.Proofs.YthpkelafioikaaaGreat
namespace Go.Proofs.YthpkelafioikaaaGreat.Fly
open Go Go.RowKit Go.Sort
set_option linter.unusedVariables false
set_option linter.unusedSimpArgs false
set_option linter.unusedSectionVars false
def gT (l:List Int):List Int:=l.mergeSort fun x y=>decide (x≤y)
theorem e6 (l:List Int):(gT l).length=l.length:=List.length_mergeSort l
theorem p8 (l:List Int):(gT l).Perm l:=List.mergeSort_perm l _
theorem sortI_sorted (l:List Int):(gT l).Pairwise (·≤·):=by
 have h:=List.pairwise_mergeSort (le:=fun x y:Int=>decide (x≤y)) (fun a b c h1 h2=>by simp at*;omega) (fun a b=>by simp;omega) l
 exact h.imp fun {a b} h=>by simpa using h
theorem putCells_list (ts:List Int) (cs sp:List Value) (h:cs.length=ts.length):(putCells (Value.int .i64) 0 ts.toArray (cs++sp).toArray).toList=bF ts++sp:=by
 apply List.ext_getElem?;intro j;rw [Array.getElem?_toList];simp only [putCells,Array.getElem?_mapIdx,List.getElem?_toArray]
 by_cases hj:j<ts.length
 ·rw [List.getElem?_append_left aA,List.getElem?_append_left (by rw [a7];exact hj),eG hj]
  simp [hj,h]
 ·rw [List.getElem?_append_right aA,List.getElem?_append_right (by rw [a7];omega),a7,h]
  cases sp[j - ts.length]? <;>simp [hj]
theorem meets_sort {P:Program} {Y:Go.Shelf.Ren} (L:Lays.n189 P Y) {E:TypeId} (A:Option Addr) (cap:Nat) (l:List Int) (m:Seg) (w:World) (ho:Own E 1 (.slice A l.length cap) l.length (bF l) m) (hl:l.length<4611686018427387904) (hw:Owns w [m]):
  Meets P (Y.f 189) [.slice A l.length cap] w [m] (fun u own' =>u= .tuple #[]∧∃ m',own' =[m']∧Own E 1 (.slice A l.length cap) l.length (bF (gT l)) m'):=by
 have X:=ho
 obtain ⟨h0,h|⟨b,c,sp,e,rfl,h1,h2,h3⟩⟩:=X
 ·obtain ⟨e,U,rfl⟩:=h
  obtain rfl:l=[]:=List.eq_nil_of_length_eq_zero U
  refine Calls.mono (Any.slices_Sort_int_none L A cap w) ?_;rintro _ _ ⟨rfl,rfl⟩;exact ⟨_,[[]],rfl,Hp.start hw,rfl,[],rfl,by rw [show gT []=[] from by simp [gT]];exact ho⟩
 ·cases e
  have hb:w.heap[b]? =some (blk (bF l++sp) E):=hw.there b _ aN
  have hlt:b<w.heap.size:=by
   rcases Nat.lt_or_ge b w.heap.size with h' |h'
   ·exact h'
   ·rw [Array.getElem?_eq_none h'] at hb;cases hb
  have Z:Holds (Value.int .i64) w b 0 l.toArray:=by
   intro j hj;have F:j<l.length:=by simpa using hj
   refine ⟨?_,by simp [World.frozen?,hb]⟩;have:(bF l++sp)[j]? =some (.int .i64 l[j]):=by rw [List.getElem?_append_left (by rw [a7];exact F),eG F]
   simp [World.cell?,hb,this,F]
  have hc:=Any.slices_Sort_int L b 0 cap l w Z hlt hl
  refine Calls.mono hc ?_;rintro _ _ ⟨rfl,n,os,rfl⟩
  have O:(grow (putRow (Value.int .i64) (Sort.ahead w n) b 0 (gT l).toArray) os).heap[b]? =some (blk (bF (gT l)++sp) E):=by
   rw [heap_grow_old _ _ (by simpa using hlt)]
   have:(putCells (Value.int .i64) 0 (gT l).toArray (bF l++sp).toArray)=(bF (gT l)++sp).toArray:=by
    rw [← Array.toList_inj,putCells_list _ _ _ (by rw [a7,e6])]
   simp [putRow,mapBlock,Sort.ahead,Array.getElem?_modify,hb,onCells,this]
  have J:∀ k,k<w.heap.size→k≠b→(grow (putRow (Value.int .i64) (Sort.ahead w n) b 0 (gT l).toArray) os).heap[k]? =w.heap[k]? :=fun k hk hne=>by
   rw [heap_grow_old _ _ (by simpa using hk)];have:b≠k:=fun e=>hne e.symm
   simp [putRow,mapBlock,Sort.ahead,Array.getElem?_modify,this]
  refine ⟨.tuple #[],[[(b,blk (bF (gT l)++sp) E)]],rfl,?_,rfl,_,rfl,by rw [a7] at h0;exact ⟨by rw [a7,e6];omega,.inr ⟨b,cap,sp,rfl,rfl,h1,h2,h3⟩⟩⟩;refine ⟨rfl,rfl,rfl,by simp [grow],by simp [grow,putRow,mapBlock,Sort.ahead],fun k hk=>hk.1,fun k hk=>J k hk.1 fun e=>hk.2 (by subst e;simp),fun k o hm=>?_,fun k o hm hk=>hk.2 (by simp at hm;obtain ⟨rfl,_⟩:=hm;simp),aN⟩;simp only [List.flatten_cons,List.flatten_nil,List.append_nil,List.mem_singleton,Prod.mk.injEq] at hm;obtain ⟨rfl,rfl⟩:=hm
  exact O
end Go.Proofs.YthpkelafioikaaaGreat.Fly
namespace Go.Proofs.YthpkelafioikaaaGreat
open Go Go.RowKit Fly
set_option maxRecDepth 100000
set_option maxHeartbeats 4000000
set_option linter.all false
def nbr (v:Int) (x:Arc):List Int:=if x.src=x.dst then [] else if x.src=v then [x.dst] else if x.dst=v then [x.src] else []
def dS (v:Int) (l:List Arc):List Int:=cpt (gT (l.flatMap (nbr v)))
theorem pJ {v:Int} {l:List Arc} {i:Nat} (hi:i<l.length):(l.take (i+1)).flatMap (nbr v)=(l.take i).flatMap (nbr v)++nbr v l[i]:=by
 rw [List.take_succ_eq_append_getElem hi,List.flatMap_append];simp
theorem qM (v:Int) (l:List Arc):(l.flatMap (nbr v)).length≤l.length:=by
 induction l with
 |nil=>simp
 |cons x r ih=>
  rw [List.flatMap_cons,List.length_append,List.length_cons]
  have:(nbr v x).length≤1:=by
   unfold nbr
   split
   ·simp
   ·split
    ·simp
    ·split<;>simp
  omega
theorem nbrs_rising (v:Int) (l:List Arc):(dS v l).Pairwise (·<·):=cpt_int (sortI_sorted _)
theorem nbrs_mem {v:Int} {l:List Arc} {u:Int}:u∈dS v l↔∃ x∈l,u∈nbr v x:=by
 unfold dS
 rw [oH,(p8 _).mem_iff,List.mem_flatMap]
theorem idxs_in {α:Type} {p:α→Bool} {l:List α}:∀ k,k≤l.length→∀ x:Int,x∈gF p (l.take k)↔∃ i,∃ h:i<l.length,i<k∧x=(i:Int)∧p l[i]=true
 |0,_,x=>by simp [gF]
 |k+1,hk,x=>by
  rw [idxs_succ aA,List.mem_append,idxs_in k aA x];constructor
  ·rintro (⟨i,h,h1,h2,h3⟩|hx)
   ·exact ⟨i,h,aA,h2,h3⟩
   ·split at hx
    ·rename_i hp;simp at hx;exact ⟨k,aA,aA,hx,hp⟩
    ·simp at hx
  ·rintro ⟨i,h,h1,h2,h3⟩
   by_cases e:i=k
   ·subst e;right;rw [if_pos h3];simp [h2]
   ·exact .inl ⟨i,h,aA,h2,h3⟩
theorem Sub.of_perm {m:Seg} {out:List Seg} (h:m.Perm out.flatten):Fly.Sub [m] out:=⟨[],by simpa using h⟩
theorem Sub.flat {segs out:List Seg} (h:Fly.Sub segs out):Fly.Sub segs [out.flatten]:=by
 obtain ⟨rest,h⟩:=h;exact ⟨rest,by simpa using h⟩
theorem Sub.shut {m:Seg} {F out:List Seg} (h:m.Perm out.flatten):Fly.Sub (out++F) (m::F):=⟨[],by simp only [List.flatten_cons,List.flatten_append,List.append_nil];exact h.symm.append_right _⟩
theorem Sub.opened {m:Seg} {F out:List Seg} (h:m.Perm out.flatten):Fly.Sub (m::F) (out++F):=⟨[],by simp only [List.flatten_cons,List.flatten_append,List.append_nil];exact h.append_right _⟩
def lab (L:List Int) (u:Int):Int:=L.getD u.toNat 0
theorem oP {L:List Int} {u:Int} (h:u.toNat<L.length):lab L u=L[u.toNat]:=by simp [lab,h]
def pG (L R:List Int) (j:Int):Nat:=(R.filter fun u=>decide (lab L u=j)).length
theorem ncnt_next {L R:List Int} {k:Nat} (hk:k<R.length) (j:Int):pG L (R.take (k+1)) j=pG L (R.take k) j+(if lab L R[k]=j then 1 else 0):=by
 unfold pG;rw [oR hk];simp
theorem ncnt_le (L R:List Int) (j:Int):pG L R j≤R.length:=List.length_filter_le _ _
def Cnts (L R:List Int) (ents:List (Int×Value×Nat)):Prop:=∀ j:Int,(eR ents j).getD (.int .i64 0)= .int .i64 (pG L R j:Int)
theorem Cnts.nil (L:List Int):Cnts L [] []:=fun j=>rfl
theorem Cnts.next {L R:List Int} {ents:List (Int×Value×Nat)} {k c:Nat} (h:Cnts L (R.take k) ents) (hk:k<R.length):Cnts L (R.take (k+1)) (fS ents (lab L R[k]) (.int .i64 ((pG L (R.take k) (lab L R[k]):Int)+1)) c):=fun j=>by
 rw [jA,ncnt_next hk]
 by_cases e:j=lab L R[k]
 ·subst e;rw [if_pos rfl,if_pos rfl];rfl
 ·rw [if_neg e,if_neg (fun h=>e h.symm)];exact h j
def gn (L R:List Int) (own j:Int):Int:=(pG L R j:Int) - pG L R own
abbrev Mv:=Int×Int×Int
def mvUp (L S R:List Int) (bd:Int) (v:Nat) (b:Mv) (j:Nat):Mv:=
 if (j:Int)≠lab L v∧0<pG L R j∧S.getD j 0<bd∧b.2.2<gn L R (lab L v) j then ((v:Int),(j:Int),gn L R (lab L v) j) else b
def jN (L S R:List Int) (bd:Int) (v j:Nat) (b:Mv):Mv:=(List.range j).foldl (mvUp L S R bd v) b
theorem kG (L S R:List Int) (bd:Int) (v j:Nat) (b:Mv):jN L S R bd v (j+1) b=mvUp L S R bd v (jN L S R bd v j b) j:=by
 unfold jN;rw [List.range_succ,List.foldl_append];rfl
def j3 (L S:List Int) (rows:Nat→List Int) (bd:Int) (k:Nat):Mv:=(List.range k).foldl (fun b v=>jN L S (rows v) bd v S.length b) (0,0,0)
theorem mvTo_next (L S:List Int) (rows:Nat→List Int) (bd:Int) (k:Nat):j3 L S rows bd (k+1)=jN L S (rows k) bd k S.length (j3 L S rows bd k):=by
 unfold j3;rw [List.range_succ,List.foldl_append];rfl
def mvCs (m:Mv):List Value:=[.int .i64 m.1,.int .i64 m.2.1,.int .i64 m.2.2]
def sns (L:List Int):List Int:=L.foldl (fun s l=>if l∈s then s else s++[l]) []
theorem nC {L:List Int} {k:Nat} (hk:k<L.length):sns (L.take (k+1))=if L[k]∈sns (L.take k) then sns (L.take k) else sns (L.take k)++[L[k]]:=by
 unfold sns;rw [List.take_succ_eq_append_getElem hk,List.foldl_append];rfl
theorem sns_pre (b:List Int):∀ (s:List Int),∃ r,b.foldl (fun s l=>if l∈s then s else s++[l]) s=s++r:=by
 induction b with
 |nil=>intro s;exact ⟨[],aN⟩
 |cons x b ih=>
  intro s;simp only [List.foldl_cons]
  by_cases h:x∈s
  ·rw [if_pos h];exact ih s
  ·rw [if_neg h]
   obtain ⟨r,hr⟩:=ih (s++[x])
   exact ⟨x::r,by rw [hr];simp⟩
theorem sns_take (L:List Int) (k:Nat):∃ r,sns L=sns (L.take k)++r:=by
 obtain ⟨r,hr⟩:=sns_pre (L.drop k) (sns (L.take k))
 refine ⟨r,?_⟩;rw [← hr]
 unfold sns
 rw [← List.foldl_append,List.take_append_drop]
theorem n5 {L:List Int}:∀ {k:Nat},k≤L.length→∀ x∈L.take k,x∈sns (L.take k)
 |0,_,x,hx=>by simp at hx
 |k+1,h,x,hx=>by
  have hk:k<L.length:=aA
  rw [List.take_succ_eq_append_getElem hk] at hx;rw [nC hk]
  rcases List.mem_append.1 hx with hx|hx
  ·have:=n5 (k:=k) aA x hx
   split
   ·exact this
   ·exact List.mem_append_left _ this
  ·simp only [List.mem_singleton] at hx
   subst hx
   split
   ·assumption
   ·simp
theorem sns_len {L:List Int}:∀ {k:Nat},k≤L.length→(sns (L.take k)).length≤k
 |0,_=>by simp [sns]
 |k+1,h=>by
  have:=sns_len (L:=L) (k:=k) aA
  rw [nC aA]
  split
  ·omega
  ·simp;omega
def tdy (L:List Int):List Int:=L.map fun l=>(((sns L).idxOf l:Nat):Int)
theorem gI (L:List Int):(tdy L).length=L.length:=by simp [tdy]
def lW (L:List Int) (k:Nat):List Int:=(tdy L).take k++L.drop k
theorem iR {L:List Int} {k:Nat}:(lW L k).length=L.length:=by unfold lW;rw [List.length_append,List.length_take,List.length_drop,gI];omega
theorem tdyTo_zero (L:List Int):lW L 0=L:=by simp [lW]
theorem tdyTo_all (L:List Int):lW L L.length=tdy L:=by
 unfold lW;rw [List.drop_length,List.append_nil,← gI L,List.take_length]
theorem tdyTo_get {L : List Int} {k : Nat} (hk : k < L.length) : (lW L k)[k]'(by rw [iR]; exact hk) = L[k] := by
 unfold lW
 rw [List.getElem_append_right (by rw [List.length_take,gI];omega)];simp [List.length_take,gI,Nat.min_eq_left (Nat.le_of_lt hk)]
theorem p7 {L:List Int} {k:Nat} (hk:k<L.length) {j:Nat} (hj:j=(sns (L.take (k+1))).idxOf L[k]):lW L (k+1)=(lW L k).set k (j:Int):=by
 have hm:L[k]∈sns (L.take (k+1)):=n5 aA _ (by rw [List.take_succ_eq_append_getElem hk];exact List.mem_append_right _ (List.mem_singleton.2 rfl))
 obtain ⟨r,hr⟩:=sns_take L (k+1)
 have hi:(sns L).idxOf L[k]=j:=by rw [hr,List.idxOf_append,if_pos hm,hj]
 unfold lW
 have F:k<(tdy L).length:=by rw [gI];exact hk
 rw [List.take_succ_eq_append_getElem F];have e:(tdy L)[k]=(j:Int):=by simp [tdy,hi]
 rw [e];rw [List.set_append_right _ _ (by rw [List.length_take];omega)];simp only [List.length_take,Nat.min_eq_left (Nat.le_of_lt F),Nat.sub_self,List.append_assoc,List.singleton_append];rw [show L.drop k=L[k]::L.drop (k+1) from (List.getElem_cons_drop hk).symm];rfl
theorem tdy_rng {L:List Int}:∀ x∈tdy L,0≤x∧x<((sns L).length:Int):=fun x hx=>by
 obtain ⟨l,hl,rfl⟩:=List.mem_map.1 hx
 have:l∈sns L:=by have:=n5 (L:=L) (k:=L.length) (Nat.le_refl _) l (by simpa using hl);simpa using this
 have:=List.idxOf_lt_length_of_mem this
 omega
def Nums (s:List Int) (ents:List (Int×Value×Nat)):Prop:=ents.length=s.length∧∀ j:Int,eR ents j=if j∈s then some (.int .i64 ((s.idxOf j:Nat):Int)) else none
theorem Nums.nil:Nums [] []:=⟨rfl,fun j=>rfl⟩
theorem mput_len_new {ents:List (Int×Value×Nat)} {x:Int} (h:eR ents x=none) (v:Value) (c:Nat):(fS ents x v c).length=ents.length+1:=by
 induction ents with
 |nil=>rfl
 |cons e r ih=>
  simp only [eR] at h
  by_cases hx:x=e.1
  ·rw [if_pos hx] at h;cases h
  ·rw [if_neg hx] at h
   simp only [fS,if_neg hx,List.length_cons,ih h]
theorem Nums.add {s:List Int} {ents:List (Int×Value×Nat)} (h:Nums s ents) {x:Int} (hx:x∉s) (c:Nat):Nums (s++[x]) (fS ents x (.int .i64 (s.length:Int)) c):=by
 refine ⟨?_,fun j=>?_⟩
 ·rw [mput_len_new (by rw [h.2,if_neg hx])];simp [h.1]
 ·rw [jA]
  by_cases e:j=x
  ·subst e
   rw [if_pos rfl,if_pos aN,List.idxOf_append,if_neg hx];simp
  ·rw [if_neg e,h.2]
   by_cases hj:j∈s
   ·rw [if_pos hj,if_pos (by simp [hj]),List.idxOf_append,if_pos hj]
   ·rw [if_neg hj,if_neg (by simp [hj,e])]
def oth (v:Int) (p:Pr):Int:=if p.1=v then p.2 else p.1
def atv (v:Int) (p:Pr):Bool:=decide (p.1=v)||decide (p.2=v)
theorem filt_split {α:Type} (c a:α→Bool) (l:List α):(l.filter a).length=((l.filter c).filter a).length+((l.filter fun x=> !c x).filter a).length:=by
 induction l with
 |nil=>rfl
 |cons x l ih=>by_cases h1:a x<;>by_cases h2:c x<;>simp [h1,h2,ih]<;>omega
abbrev GoodC (n:Nat) (l:List Arc):Prop:=∀ a∈l,(0≤a.src∧a.src<n)∧0≤a.dst∧a.dst<n
theorem prs_lt {n:Nat} {l:List Arc} (hg:GoodC n l) {p:Pr} (h:p∈prs n l):p.1<p.2:=by
 obtain ⟨a,_,hne,rfl⟩:=pK.1 ((mem_prs hg).1 h)
 unfold nH
 simp only;omega
theorem nbr_iff {v u:Int} {x:Arc}:u∈nbr v x↔x.src≠x.dst∧((x.src=v∧u=x.dst)∨(x.dst=v∧u=x.src)):=by
 unfold nbr
 by_cases h1:x.src=x.dst
 ·rw [if_pos h1];simp [h1]
 ·rw [if_neg h1]
  by_cases h2:x.src=v
  ·rw [if_pos h2];simp;omega
  ·rw [if_neg h2]
   by_cases h3:x.dst=v
   ·rw [if_pos h3];simp;omega
   ·rw [if_neg h3];simp;omega
theorem oth_mem {n:Nat} {l:List Arc} (hg:GoodC n l) {v u:Int}:u∈((prs n l).filter (atv v)).map (oth v)↔u∈dS v l:=by
 rw [nbrs_mem,List.mem_map];constructor
 ·rintro ⟨p,hp,rfl⟩
  obtain ⟨hp,hv⟩:=List.mem_filter.1 hp
  obtain ⟨a,ha,hne,rfl⟩:=pK.1 ((mem_prs hg).1 hp)
  refine ⟨a,ha,nbr_iff.2 ⟨hne,?_⟩⟩
  unfold atv nH at hv
  simp only [Bool.or_eq_true,decide_eq_true_eq] at hv
  unfold oth nH
  simp only
  split<;>omega
 ·rintro ⟨a,ha,F⟩
  obtain ⟨hne,F⟩:=nbr_iff.1 F
  refine ⟨nH a,List.mem_filter.2 ⟨(mem_prs hg).2 (pK.2 ⟨a,ha,hne,rfl⟩),?_⟩,?_⟩
  ·unfold atv nH
   simp only [Bool.or_eq_true,decide_eq_true_eq];omega
  ·unfold oth nH
   simp only
   split<;>omega
theorem oth_perm {n:Nat} {l:List Arc} (hg:GoodC n l) (v:Int):(((prs n l).filter (atv v)).map (oth v)).Perm (dS v l):=by
 have h1:(((prs n l).filter (atv v)).map (oth v)).Nodup:=by
  unfold List.Nodup
  rw [List.pairwise_map];refine ((qH n l).filter (atv v)).imp_of_mem ?_;intro p q hp hq hlt e;obtain ⟨O,F⟩:=List.mem_filter.1 hp
  obtain ⟨U,J⟩:=List.mem_filter.1 hq
  have X:=prs_lt hg O
  have Y:=prs_lt hg U
  unfold atv at F J
  simp only [Bool.or_eq_true,decide_eq_true_eq] at F J
  unfold oth at e
  unfold ltX at hlt
  split at e<;>split at e<;>omega
 have h2:(dS v l).Nodup:=(nbrs_rising v l).imp fun {a b} h e=>aA
 exact (List.perm_ext_iff_of_nodup h1 h2).2 fun u=>oth_mem hg
theorem ncnt_compl (L R:List Int) (j:Int):(R.filter fun u=>decide (lab L u≠j)).length+pG L R j=R.length:=by
 unfold pG
 induction R with
 |nil=>rfl
 |cons x R ih=>by_cases h:lab L x=j<;>simp [h] at ih ⊢<;>omega
theorem m9 (L:List Int) (p:Pr):j8 L p=decide (lab L p.1≠lab L p.2):=rfl
theorem at_count {n:Nat} {l:List Arc} (hg:GoodC n l) (L:List Int) (v:Int):(((prs n l).filter (atv v)).filter (j8 L)).length+pG L (dS v l) (lab L v)=(dS v l).length:=by
 have h1:=ncnt_compl L (dS v l) (lab L v)
 have hp:=(oth_perm hg v).filter fun u=>decide (lab L u≠lab L v)
 have h2:=hp.length_eq
 rw [List.filter_map,List.length_map] at h2
 have h3:((prs n l).filter (atv v)).filter (j8 L)=((prs n l).filter (atv v)).filter ((fun u=>decide (lab L u≠lab L v)) ∘ oth v):=by
  refine List.filter_congr fun p hp=>?_;have hv:=(List.mem_filter.1 hp).2
  unfold atv at hv
  simp only [Bool.or_eq_true,decide_eq_true_eq] at hv;rw [m9]
  show decide _=decide _
  apply decide_eq_decide.2
  unfold oth
  by_cases e:p.1=v
  ·rw [if_pos e,e];exact ⟨fun h h' =>h h'.symm,fun h h' =>h h'.symm⟩
  ·rw [if_neg e,hv.resolve_left e]
 rw [h3];omega
theorem lab_set_ne {L:List Int} {v:Nat} {j u:Int} (F:0≤u) (h:u≠(v:Int)):lab (L.set v j) u=lab L u:=by
 unfold lab
 rw [List.getD_eq_getElem?_getD,List.getD_eq_getElem?_getD,List.getElem?_set_ne aA]
theorem lab_set {L:List Int} {v:Nat} {j:Int} (h:v<L.length):lab (L.set v j) (v:Int)=j:=by
 unfold lab
 rw [List.getD_eq_getElem?_getD];simp [h]
theorem ncnt_congr {L L' R:List Int} (h:∀ u∈R,lab L u=lab L' u) (j:Int):pG L R j=pG L' R j:=by
 unfold pG
 congr 1
 exact List.filter_congr fun u F=>by rw [h u F]
theorem cut_set {n:Nat} {l:List Arc} (hg:GoodC n l) {L:List Int} {v:Nat} (hv:v<L.length) (j:Int):(q7 n l (L.set v j):Int)=q7 n l L - gn L (dS (v:Int) l) (lab L (v:Int)) j:=by
 have U:∀ u∈dS (v:Int) l,0≤u∧u≠(v:Int):=fun u J=>by
  obtain ⟨x,hx,O⟩:=nbrs_mem.1 J
  have:=nbr_iff.1 O
  have:=hg x hx
  omega
 have a1:=at_count hg L (v:Int)
 have X:=at_count hg (L.set v j) (v:Int)
 rw [lab_set hv,ncnt_congr (L:=L.set v j) (L' :=L) (fun u J=>lab_set_ne (U u J).1 (U u J).2)] at X
 have e:((prs n l).filter fun p=> !atv (v:Int) p).filter (j8 (L.set v j))=((prs n l).filter fun p=> !atv (v:Int) p).filter (j8 L):=by
  refine List.filter_congr fun p hp=>?_;obtain ⟨hp,F⟩:=List.mem_filter.1 hp
  have hr:=i6 hp
  unfold atv at F
  simp only [Bool.not_eq_true',Bool.or_eq_false_iff,decide_eq_false_iff_not] at F;rw [m9,m9,lab_set_ne hr.1.1 F.1,lab_set_ne hr.2.1 F.2]
 have Z:=filt_split (atv (v:Int)) (j8 L) (prs n l)
 have Y:=filt_split (atv (v:Int)) (j8 (L.set v j)) (prs n l)
 rw [e] at Y
 unfold q7 gn
 omega
theorem tdy_lab {L:List Int} {u w:Int} (F:u.toNat<L.length) (hw:w.toNat<L.length):(lab (tdy L) u=lab (tdy L) w)↔lab L u=lab L w:=by
 rw [oP (by rw [gI];exact F),oP (by rw [gI];exact hw),oP F,oP hw];simp only [tdy,List.getElem_map];constructor
 ·intro h
  have O:L[u.toNat]∈sns L:=by have:=n5 (L:=L) (k:=L.length) (Nat.le_refl _) L[u.toNat] aN;simpa using this
  have m2:L[w.toNat]∈sns L:=by have:=n5 (L:=L) (k:=L.length) (Nat.le_refl _) L[w.toNat] aN;simpa using this
  have h' :(sns L).idxOf L[u.toNat]=(sns L).idxOf L[w.toNat]:=aA
  have J:=List.getElem_idxOf (List.idxOf_lt_length_of_mem O)
  have U:=List.getElem_idxOf (List.idxOf_lt_length_of_mem m2)
  rw [← J,← U];simp only [h']
 ·intro h;rw [h]
theorem cut_tdy {n:Nat} {l:List Arc} {L:List Int} (F:L.length=n):q7 n l (tdy L)=q7 n l L:=by
 unfold q7
 congr 1
 refine List.filter_congr fun p hp=>?_;have hr:=i6 hp
 rw [m9,m9];apply decide_eq_decide.2;exact not_congr (tdy_lab aA aA)
theorem tdy_at {L : List Int} {k : Nat} (hk : k < L.length) : (tdy L)[k]'(by rw [gI]; exact hk) = (((sns (L.take (k + 1))).idxOf L[k] : Nat) : Int) := by
 have hm:L[k]∈sns (L.take (k+1)):=n5 aA _ (by rw [List.take_succ_eq_append_getElem hk];exact List.mem_append_right _ (List.mem_singleton.2 rfl))
 obtain ⟨r,hr⟩:=sns_take L (k+1)
 have e : (tdy L)[k]'(by rw [gI]; exact hk) = (((sns L).idxOf L[k] : Nat) : Int) := by simp [tdy]
 rw [e,hr,List.idxOf_append,if_pos hm]
theorem rgo_tdy {L:List Int}:∀ (m k:Nat),L.length - k=m→k≤L.length→rgo ((sns (L.take k)).length:Int) ((tdy L).drop k)=true
 |0,k,h,hk=>rgo_end (by rw [gI];omega) _
 |m+1,k,h,hk=>by
  have F:k<L.length:=aA
  have ih:=rgo_tdy (L:=L) m (k+1) aA aA
  rw [rgo_drop (by rw [gI];exact F),tdy_at F];have hs:=nC F
  by_cases hx:L[k]∈sns (L.take k)
  ·rw [if_pos hx] at hs
   rw [hs] at ih ⊢;have:=List.idxOf_lt_length_of_mem hx
   rw [if_neg aA,if_neg aA];exact ih
  ·rw [if_neg hx] at hs
   have hi:(sns (L.take (k+1))).idxOf L[k]=(sns (L.take k)).length:=by rw [hs,List.idxOf_append,if_neg hx];simp
   rw [hi,if_neg aA,if_pos rfl];rw [hs,List.length_append,List.length_singleton] at ih;exact ih
theorem right_tdy {L:List Int} {n:Nat} (F:L.length=n):eH (n:Int) (tdy L)=true:=by
 have:=rgo_tdy (L:=L) L.length 0 aA aA
 unfold eH
 rw [List.take_zero,List.drop_zero] at this;have J:((sns ([]:List Int)).length:Int)=0:=rfl
 rw [J] at this;rw [this,gI,F];simp
theorem sns_nodup {L:List Int}:∀ {k:Nat},k≤L.length→(sns (L.take k)).Nodup
 |0,_=>by simp [sns]
 |k+1,h=>by
  have:=sns_nodup (L:=L) (k:=k) aA
  rw [nC aA]
  split
  ·exact this
  ·rename_i hx
   rw [List.nodup_append];exact ⟨this,aN,fun a ha b hb e=>by simp at hb;subst hb;subst e;exact hx ha⟩
theorem sns_sub {L:List Int}:∀ {k:Nat},k≤L.length→∀ x∈sns (L.take k),x∈L
 |0,_,x,hx=>by simp [sns] at hx
 |k+1,h,x,hx=>by
  rw [nC aA] at hx
  split at hx
  ·exact sns_sub (k:=k) aA x hx
  ·rcases List.mem_append.1 hx with hx|hx
   ·exact sns_sub (k:=k) aA x hx
   ·simp only [List.mem_singleton] at hx;rw [hx];exact List.getElem_mem _
theorem max_tdy {L:List Int} (Y:0<L.length):e9 (tdy L)=((sns L).length:Int) - 1:=by
 have hx:∀ x∈tdy L,x≤((sns L).length:Int) - 1:=fun x hx=>by have:=tdy_rng x hx;omega
 have h1:=mU (by rw [gI];exact Y) hx
 have X:0<(sns L).length:=by
  have:L[0]∈sns L:=by have:=n5 (L:=L) (k:=L.length) (Nat.le_refl _) L[0] aN;simpa using this
  exact List.length_pos_of_mem this
 have hlt:(sns L).length - 1<(sns L).length:=aA
 have O:(sns L)[(sns L).length - 1]∈L:=by
  have:=sns_sub (L:=L) (k:=L.length) (Nat.le_refl _) (sns L)[(sns L).length - 1] (by rw [List.take_length];exact List.getElem_mem _)
  exact this
 have U:(sns L).Nodup:=by have:=sns_nodup (L:=L) (k:=L.length) (Nat.le_refl _);rwa [List.take_length] at this
 have J:(sns L).idxOf (sns L)[(sns L).length - 1]=(sns L).length - 1:=by
  have g:=List.getElem_idxOf (List.idxOf_lt_length_of_mem (List.getElem_mem hlt))
  have F:=List.idxOf_lt_length_of_mem (List.getElem_mem hlt)
  refine Classical.byContradiction fun hne=>?_;exact (List.pairwise_iff_getElem.1 U) _ _ F hlt aA g
 have h2:(((sns L).length - 1:Nat):Int)≤e9 (tdy L):=iI (List.mem_map.2 ⟨_,O,by rw [J]⟩)
 omega
theorem sizes_tdy {L:List Int} (F:0<L.length):szs (sns L).length (tdy L)=dZ (tdy L):=by
 unfold dZ
 rw [max_tdy F,show (((sns L).length:Int) - 1+1).toNat=(sns L).length by omega]
abbrev mayGo (L S:List Int) (bd:Int) (v j:Nat):Prop:=(j:Int)≠lab L (v:Int)∧S.getD j 0<bd
def IsMv (n:Nat) (L S:List Int) (rows:Nat→List Int) (bd:Int) (b:Mv):Prop:=
 b=(0,0,0)∨∃ y j:Nat,b=((y:Int),(j:Int),gn L (rows y) (lab L (y:Int)) j)∧y<n∧j<S.length∧mayGo L S bd y j
theorem row_is {n:Nat} {L S:List Int} {rows:Nat→List Int} {bd:Int} {v:Nat} {b:Mv} (hv:v<n) (hb:IsMv n L S rows bd b):∀ j,j≤S.length→IsMv n L S rows bd (jN L S (rows v) bd v j b)
 |0,_=>hb
 |j+1,h=>by
  rw [kG]
  unfold mvUp
  split
  ·rename_i hc;exact .inr ⟨v,j,rfl,hv,aA,hc.1,hc.2.2.1⟩
  ·exact row_is hv hb j aA
theorem to_is {n:Nat} {L S:List Int} {rows:Nat→List Int} {bd:Int}:∀ k,k≤n→IsMv n L S rows bd (j3 L S rows bd k)
 |0,_=> .inl rfl
 |k+1,h=>by rw [mvTo_next];exact row_is aA (to_is k aA) _ (Nat.le_refl _)
theorem filt_set {α:Type} (p:α→Bool):∀ (l:List α) (i:Nat) (x:α) (h:i<l.length),((l.set i x).filter p).length+(if p l[i] then 1 else 0)=(l.filter p).length+(if p x then 1 else 0)
 |[],i,x,h=>by simp at h
 |y::l,0,x,h=>by by_cases h1:p x<;>by_cases h2:p y<;>simp [h1,h2]
 |y::l,i+1,x,h=>by
  have ih:=filt_set p l i x (by simpa using h)
  by_cases h2:p y<;>simp [h2] at ih ⊢<;>omega
theorem cnt_tdy {L:List Int} {i:Nat} (hi:i<(sns L).length):cnt (tdy L) i=(L.filter fun x=>decide (x=(sns L)[i])).length:=by
 unfold cnt tdy
 rw [List.filter_map,List.length_map]
 congr 1
 refine List.filter_congr fun x hx=>?_;have hm:x∈sns L:=by have:=n5 (L:=L) (k:=L.length) (Nat.le_refl _) x (by simpa using hx);simpa using this
 have F:(sns L).Nodup:=by have:=sns_nodup (L:=L) (k:=L.length) (Nat.le_refl _);rwa [List.take_length] at this
 show decide ((((sns L).idxOf x:Nat):Int)=Int.ofNat i)=decide (x=(sns L)[i])
 apply decide_eq_decide.2;have hlt:=List.idxOf_lt_length_of_mem hm
 have g:=List.getElem_idxOf hlt
 constructor
 ·intro h
  have h' :(sns L).idxOf x=i:=by have:(((sns L).idxOf x:Nat):Int)=(i:Int):=h;omega
  rw [← g];simp only [h']
 ·intro h
  show (((sns L).idxOf x:Nat):Int)=(i:Int)
  have:(sns L).idxOf x=i:=by
   refine Classical.byContradiction fun hne=>?_
   rcases Nat.lt_or_gt_of_ne hne with hl|hl
   ·exact (List.pairwise_iff_getElem.1 F) _ _ hlt hi hl (g.trans h)
   ·exact (List.pairwise_iff_getElem.1 F) _ _ hi hlt hl (h.symm.trans g.symm)
  omega
theorem size_move {L:List Int} {M:Nat} {bd:Int} {v j:Nat} (hv:v<L.length) (hj:j<M) (J:∀ x∈L,0≤x∧x<(M:Int)) (hb:∀ i,i<M→(cnt L i:Int)≤bd) (O:(cnt L j:Int)<bd):∀ x∈szs (sns (L.set v (j:Int))).length (tdy (L.set v (j:Int))),x≤bd:=fun x hx=>by
 obtain ⟨i,hi,rfl⟩:=List.mem_map.1 hx
 have hi' :i<(sns (L.set v (j:Int))).length:=by simpa using hi
 rw [cnt_tdy hi']
 have hs:(sns (L.set v (j:Int)))[i]∈L.set v (j:Int):=by
  have:=sns_sub (L:=L.set v (j:Int)) (k:=(L.set v (j:Int)).length) (Nat.le_refl _) (sns (L.set v (j:Int)))[i] (by rw [List.take_length];exact List.getElem_mem _)
  exact this
 generalize (sns (L.set v (j:Int)))[i]=s at hs
 have hf:=filt_set (fun x=>decide (x=s)) L v (j:Int) hv
 obtain ⟨y,hy⟩:∃ y:Nat,s=(y:Int)∧y<M:=by
  rcases List.mem_or_eq_of_mem_set hs with h|h
  ·have:=J s h;exact ⟨s.toNat,aA,aA⟩
  ·exact ⟨j,h,hj⟩
 obtain ⟨rfl,F⟩:=hy
 have hc:(L.filter fun x=>decide (x=(y:Int))).length=cnt L y:=rfl
 rw [hc] at hf;have:=hb y F
 by_cases e:j=y
 ·subst e
  simp only [decide_true,if_true] at hf
  split at hf<;>omega
 ·have e' :¬ ((j:Int)=(y:Int)):=aA
  simp only [e',decide_false,Bool.false_eq_true,if_false] at hf
  split at hf<;>omega
abbrev BSt:=List Int×List Bool
def jE (s:BSt) (u:Int):BSt:=if s.2.getD u.toNat false=true then s else (s.1++[u],s.2.set u.toNat true)
def i1 (row:List Int) (s:BSt):BSt:=row.foldl jE s
def oJ (rows:Nat→List Int) (k:Nat) (s:BSt):BSt:=
 match s.1[k]? with
 |some v=>i1 (rows v.toNat) s
 |none=>s
def bgo (rows:Nat→List Int) (s:BSt):Nat→BSt
 |0=>s
 |k+1=>oJ rows k (bgo rows s k)
def fM (c:Nat) (b:List Bool):BSt:=([(c:Int)],b.set c true)
def bfs (n:Nat) (rows:Nat→List Int) (c:Nat) (b:List Bool):BSt:=bgo rows (fM c b) n
theorem rA {row:List Int} {j:Nat} (hj:j<row.length) (s:BSt):i1 (row.take (j+1)) s=jE (i1 (row.take j) s) row[j]:=by
 unfold i1;rw [List.take_succ_eq_append_getElem hj,List.foldl_append];rfl
theorem bpush1_ext (s:BSt) (u:Int):∃ r,(jE s u).1=s.1++r:=by
 unfold jE
 split
 ·exact ⟨[],aN⟩
 ·exact ⟨[u],rfl⟩
theorem bpush_ext (row:List Int):∀ s:BSt,∃ r,(i1 row s).1=s.1++r:=by
 induction row with
 |nil=>intro s;exact ⟨[],by simp [i1]⟩
 |cons u row ih=>
  intro s;obtain ⟨F,h1⟩:=bpush1_ext s u
  obtain ⟨J,h2⟩:=ih (jE s u)
  refine ⟨F++J,?_⟩
  show (i1 row (jE s u)).1=_
  rw [h2,h1,List.append_assoc]
theorem pX {rows:Nat→List Int} {k:Nat} {s:BSt} (h:k<s.1.length):oJ rows k s=i1 (rows s.1[k].toNat) s:=by
 unfold oJ;rw [List.getElem?_eq_getElem h]
theorem pV {rows:Nat→List Int} {k:Nat} {s:BSt} (h:s.1.length≤k):oJ rows k s=s:=by
 unfold oJ;rw [List.getElem?_eq_none h]
theorem bstep_ext (rows:Nat→List Int) (k:Nat) (s:BSt):∃ r,(oJ rows k s).1=s.1++r:=by
 rcases Nat.lt_or_ge k s.1.length with h|h
 ·rw [pX h];exact bpush_ext _ _
 ·rw [pV h];exact ⟨[],aN⟩
theorem bgo_ext (rows:Nat→List Int) (s:BSt) (k:Nat):∀ d,∃ r,(bgo rows s (k+d)).1=(bgo rows s k).1++r
 |0=>⟨[],aN⟩
 |d+1=>by
  obtain ⟨F,h1⟩:=bgo_ext rows s k d
  obtain ⟨J,h2⟩:=bstep_ext rows (k+d) (bgo rows s (k+d))
  refine ⟨F++J,?_⟩
  show (oJ rows (k+d) (bgo rows s (k+d))).1=_
  rw [h2,h1,List.append_assoc]
theorem bgo_stop {rows:Nat→List Int} {s:BSt} {k:Nat} (h:(bgo rows s k).1.length≤k):∀ d,bgo rows s (k+d)=bgo rows s k
 |0=>rfl
 |d+1=>by
  have ih:=bgo_stop h d
  show oJ rows (k+d) (bgo rows s (k+d))=_
  rw [ih,pV aA]
structure BInv (n:Nat) (s:BSt):Prop where
 len:s.2.length=n
 rng:∀ x∈s.1,0≤x∧x<(n:Int)
 nd:s.1.Nodup
 tr:∀ x∈s.1,s.2.getD x.toNat false=true
theorem pR {n:Nat} {l:List Int} (hr:∀ x∈l,0≤x∧x<(n:Int)) (hn:l.Nodup):l.length≤n:=by
 have h:=List.Nodup.length_le_of_subset hn (l₂:=(List.range n).map Int.ofNat) fun x hx=>by
  have:=hr x hx
  exact List.mem_map.2 ⟨x.toNat,List.mem_range.2 aA,by show ((x.toNat:Nat):Int)=x;omega⟩
 simpa using h
theorem BInv.out {n:Nat} {s:BSt} (h:BInv n s):s.1.length≤n:=pR h.rng h.nd
theorem getD_set (l:List Bool) (i j:Nat) (b:Bool):(l.set i b).getD j false=if i=j∧i<l.length then b else l.getD j false:=by
 simp only [List.getD_eq_getElem?_getD,List.getElem?_set]
 by_cases h:i=j
 ·subst h
  by_cases h' :i<l.length
  ·simp [h']
  ·simp [h']
 ·simp [h]
theorem BInv.start {n c:Nat} {b:List Bool} (hb:b.length=n) (hc:c<n):BInv n (fM c b):=by
 refine ⟨by simp [fM,hb],fun x hx=>?_,by simp [fM],fun x hx=>?_⟩
 ·simp only [fM,List.mem_singleton] at hx;omega
 ·simp only [fM,List.mem_singleton] at hx
  subst hx
  show (b.set c true).getD _ false=true
  rw [getD_set,if_pos ⟨aA,aA⟩]
theorem BInv.push1 {n:Nat} {s:BSt} (h:BInv n s) {u:Int} (F:0≤u∧u<(n:Int)):BInv n (jE s u):=by
 unfold jE
 split
 ·exact h
 ·rename_i hn
  refine ⟨by simp [h.len],fun x hx=>?_,?_,fun x hx=>?_⟩
  ·rcases List.mem_append.1 hx with hx|hx
   ·exact h.rng x hx
   ·simp only [List.mem_singleton] at hx;omega
  ·rw [List.nodup_append]
   refine ⟨h.nd,aN,fun a ha b hb e=>?_⟩;simp only [List.mem_singleton] at hb;subst hb;subst e;exact hn (h.tr _ ha)
  ·show (s.2.set u.toNat true).getD _ false=true
   rw [getD_set]
   split
   ·rfl
   ·rename_i hne
    rcases List.mem_append.1 hx with hx|hx
    ·exact h.tr x hx
    ·simp only [List.mem_singleton] at hx;subst hx
     exact absurd ⟨rfl,by rw [h.len];omega⟩ hne
theorem BInv.push {n:Nat} {row:List Int} (hr:∀ u∈row,0≤u∧u<(n:Int)):∀ {s:BSt},BInv n s→BInv n (i1 row s):=by
 induction row with
 |nil=>exact fun h=>h
 |cons u row ih=>exact fun h=>ih (fun x hx=>hr x (List.mem_cons_of_mem _ hx)) (h.push1 (hr u (List.mem_cons_self ..)))
theorem BInv.step {n:Nat} {rows:Nat→List Int} (hr:∀ v,v<n→∀ u∈rows v,0≤u∧u<(n:Int)) {k:Nat} {s:BSt} (h:BInv n s):BInv n (oJ rows k s):=by
 rcases Nat.lt_or_ge k s.1.length with hk|hk
 ·rw [pX hk]
  exact h.push (hr _ (by have:=h.rng _ (List.getElem_mem hk);omega))
 ·rw [pV hk];exact h
theorem BInv.go {n:Nat} {rows:Nat→List Int} (hr:∀ v,v<n→∀ u∈rows v,0≤u∧u<(n:Int)) {s:BSt} (h:BInv n s):∀ k,BInv n (bgo rows s k)
 |0=>h
 |k+1=>(BInv.go hr h k).step hr
theorem bgo_pre {n:Nat} {rows:Nat→List Int} {s:BSt} {k:Nat} (hk:k≤n):∃ r,(bgo rows s n).1=(bgo rows s k).1++r:=by
 have:=bgo_ext rows s k (n - k)
 rwa [show k+(n - k)=n by omega] at this
theorem bgo_fin {n:Nat} {rows:Nat→List Int} {s:BSt} {k:Nat} (hk:k≤n) (h:(bgo rows s k).1.length≤k):bgo rows s n=bgo rows s k:=by
 have:=bgo_stop h (n - k)
 rwa [show k+(n - k)=n by omega] at this
theorem bgo_get {n:Nat} {rows:Nat→List Int} {s:BSt} {k:Nat} (hk:k≤n) (h:k<(bgo rows s k).1.length):∃ h' :k<(bgo rows s n).1.length,(bgo rows s n).1[k]=(bgo rows s k).1[k]:=by
 obtain ⟨r,hr⟩:=bgo_pre (rows:=rows) (s:=s) hk
 refine ⟨by rw [hr,List.length_append];omega,?_⟩;simp only [hr];exact List.getElem_append_left h
end Go.Proofs.YthpkelafioikaaaGreat
