import Derived.Test.YthpkelafioikaaaGreatFlyRun
import Derived.Test.YthpkelafioikaaaGreatAll11
import Derived.Test.YthpkelafioikaaaGreatAll2
import Derived.Test.YthpkelafioikaaaGreatAll1
import Derived.Test.YthpkelafioikaaaGreatAll0
import Derived.Test.YthpkelafioikaaaGreatAll3
namespace Go.Proofs.YthpkelafioikaaaGreat
open Go Go.RowKit Fly
set_option maxRecDepth 100000
set_option maxHeartbeats 4000000
set_option linter.all false
theorem lcount_okJ {N:Int} {l:List Arc} {L:List Int} (h:(fN N l L).2=0):(cG N l).2=0∧eH N L=true:=by
 unfold fN at h
 split at h
 ·rename_i h1;exact absurd h h1
 ·rename_i h1
  split at h
  ·cases h
  ·rename_i h2;exact ⟨by simpa using h1,by simpa using h2⟩
theorem spE_zero {N:Int} {l:List Arc} {L:List Int} {bd:Int} (h:spE N l L bd=0):∃ n:Nat,N=(n:Int)∧1≤n∧n≤1024∧(cG (n:Int) l).2=0∧eH (n:Int) L=true∧1≤bd∧bd≤1024:=by
 unfold spE at h
 by_cases h1:(fN N l L).2≠0
 ·rw [if_pos h1] at h;exact absurd h h1
 ·rw [if_neg h1] at h
  obtain ⟨hg,hr⟩:=lcount_okJ (by omega:(fN N l L).2=0)
  have:=bS hg
  refine ⟨N.toNat,aA,aA,aA,by rw [Int.toNat_of_nonneg aA];exact hg,by rw [Int.toNat_of_nonneg aA];exact hr,?_⟩
  split at h
  ·cases h
  ·omega
def joinE (N:Int) (l:List Arc) (L:List Int) (bd:Int):Int:=if spE N l L bd≠0 then spE N l L bd else if bd<e9 (dZ L) then 90 else 0
inductive JTo (n:Nat) (l:List Arc) (bd:Int):List Int→List Int→Prop
 |refl (L:List Int):JTo n l bd L L
 |step {L M:List Int} {s:Sm} (h:JTo n l bd L M) (hs:s∈smL (prs n l) M bd) (hb:∀ t∈smL (prs n l) M bd,nT s t≤0):JTo n l bd L (tdy (mrg s.1 s.2.1 M))
theorem JTo.head {n:Nat} {l:List Arc} {bd:Int} {L R:List Int} (h:JTo n l bd L R):R=L∨∃ s,s∈smL (prs n l) L bd∧(∀ t∈smL (prs n l) L bd,nT s t≤0)∧JTo n l bd (tdy (mrg s.1 s.2.1 L)) R:=by
 induction h with
 |refl=>exact .inl rfl
 |step h hs hb ih=>
  rcases ih with rfl|⟨t,J,F,hj⟩
  ·exact .inr ⟨_,hs,hb,.refl _⟩
  ·exact .inr ⟨t,J,F,hj.step hs hb⟩
def mgk (a b:Int) (L:List Int) (k:Nat):List Int:=L.mapIdx fun i x=>if i<k∧x=b then a else x
theorem mgk_len (a b:Int) (L:List Int) (k:Nat):(mgk a b L k).length=L.length:=by simp [mgk]
theorem mgk_zero (a b:Int) (L:List Int):mgk a b L 0=L:=by
 refine List.ext_getElem (mgk_len ..) fun i h1 h2=>?_;simp [mgk]
theorem mgk_all (a b:Int) (L:List Int):mgk a b L L.length=mrg a b L:=by
 refine List.ext_getElem (by rw [mgk_len,lN]) fun i h1 h2=>?_;rw [lN] at h2;simp [mgk,mrg,h2]
theorem mgk_get {a b : Int} {L : List Int} {k : Nat} (h : k < L.length) : (mgk a b L k)[k]'(by rw [mgk_len]; exact h) = L[k] := by simp [mgk]
theorem mgk_yes {a b:Int} {L:List Int} {k:Nat} (h:k<L.length) (e:L[k]=b):(mgk a b L k).set k a=mgk a b L (k+1):=by
 refine List.ext_getElem (by simp [mgk]) fun i h1 h2=>?_
 by_cases hi:k=i
 ·subst hi;simp [mgk,e]
 ·rw [List.getElem_set_ne hi]
  simp only [mgk,List.getElem_mapIdx]
  split<;>split<;>first|rfl|omega
theorem mgk_no {a b:Int} {L:List Int} {k:Nat} (h:k<L.length) (e:L[k]≠b):mgk a b L k=mgk a b L (k+1):=by
 refine List.ext_getElem (by simp [mgk]) fun i h1 h2=>?_;simp only [mgk,List.getElem_mapIdx]
 by_cases hi:k=i
 ·subst hi;simp [e]
 ·split<;>split<;>first|rfl|omega
theorem cnt_max {L:List Int} (F:0<L.length) (hp:∀ x∈L,0≤x) {bd:Int} (hb:0≤bd) (h:e9 (dZ L)≤bd) (y:Int):(gK L y:Int)≤bd:=by
 by_cases hy:y∈L
 ·have h1:=hp y hy
  have h2:=iI hy
  obtain ⟨v,rfl⟩:∃ v:Nat,y=(v:Int):=⟨y.toNat,aA⟩
  have hv:v<(e9 L+1).toNat:=aA
  have h3:(cnt L v:Int)∈dZ L:=by
   unfold dZ
   rw [← kP (L:=L) hv];exact List.getElem_mem _
  have:=iI h3
  rw [← cnt_is];omega
 ·rw [kO hy];exact hb
theorem max_cnt {L:List Int} (F:0<(dZ L).length) {bd:Int} (h:∀ y,(gK L y:Int)≤bd):e9 (dZ L)≤bd:=mU F fun x hx=>by
 unfold dZ szs at hx
 obtain ⟨j,_,rfl⟩:=List.mem_map.1 hx
 exact h j
theorem lab_mem {n:Nat} {L:List Int} {u:Int} (F:L.length=n) (h:0≤u∧u<(n:Int)):lab L u∈L:=by
 rw [oP aA];exact List.getElem_mem _
theorem seam_mem {n:Nat} {l:List Arc} {bd a b:Int} {L:List Int} (J:L.length=n) (h:Seam n l bd L a b):a∈L∧b∈L∧a≠b:=by
 obtain ⟨p,hp,hne,F,_⟩:=h
 have hr:=i6 hp
 have h1:=lab_mem J hr.1
 have h2:=lab_mem J hr.2
 rcases F with ⟨e1,e2⟩|⟨e1,e2⟩
 ·exact ⟨e1▸h1,e2▸h2,hne⟩
 ·exact ⟨e2▸h2,e1▸h1,hne⟩
theorem Join_spec (N:Int) (A B:Option Addr) (l:List Arc) (cap:Nat) (L:List Int) (cb:Nat) (bd:Int) (w:World) (hr:Ro (Fr w []) w A (l.flatMap bZ)) (hl:l.length≤9223372036854775807) (hN:I64 N) (hok:∀ x∈l,eK x) (hL:Ro (Fr w []) w B (bF L)) (hm:L.length≤9223372036854775807):
    Meets Tryz.prog 57 [.agg #[.int .i64 N,.slice A l.length cap],.slice B L.length cb,.int .i64 bd] w [] (fun u own' =>∃ (L' :List Int) (A' :Option Addr) (c:Nat) (m' :Seg),u= .tuple #[.slice A' L'.length c,.int .i64 (joinE N l L bd)]∧own' =[m']∧Own 3 1 (.slice A' L'.length c) L'.length (bF L') m'∧(joinE N l L bd≠0→L' =[])∧(joinE N l L bd=0→JInv N.toNat l bd L L'∧smL (prs N.toNat l) L' bd=[]∧JTo N.toNat l bd L L')):=by
 refine bE Tryz.func57 rfl Tryz.ntmps57 rfl Owns.nil<|aG fun kh1=>f_S (cT rfl rfl fun b3=>?_)
 refine aB 2 rfl<|aD kh1<|aS fun kh2=>aG fun kh3=>f_Q (aO (vs:=[_,_]) Tryz.isAgg24 Tryz.sizeOf24 rfl rfl ⟨(rdA rfl),(rdA rfl),trivial⟩)<|aB 2 rfl ?_
 refine f_S (aV Tryz.call86 rfl (fun w_ hp_=>splook_spec N A B l cap L cb bd w_ (hr.up0 hp_) hl hN hok (hL.up0 hp_) hm) ?_);rintro _ _ ⟨rfl,rfl⟩;dsimp only [aK,aJ];refine aB 1 rfl<|aD kh3<|aG fun kh4=>aB 2 rfl<|aD kh4<|aX rfl (fun c20=>?_) (fun c20=>?_)
 ·
  refine aG fun am=>aB 3 rfl<|aD am<|aY<|cV ?_
  have X:spE N l L bd≠0:=by simpa using c20
  have F:joinE N l L bd=spE N l L bd:=by unfold joinE;rw [if_pos X]
  exact cZ [[]] Tryz.results57 rfl rfl (show Fly.Sub _ [[]] from aC) ⟨[],none,0,[],by rw [F];rfl,rfl,Own.nil _ _,fun _=>rfl,fun h=>absurd (F.symm.trans h) X⟩
 ·
  have hz:spE N l L bd=0:=by simpa using c20
  obtain ⟨n,rfl,ab,az,hg,hR,aw⟩:=spE_zero hz
  have be:L.length=n:=(d6 hR).2
  have O:=e5 hR ab
  refine bV kh2<|aS fun kh6=>aG fun kh7=>aB 1 rfl ?_
  refine f_S (aV Tryz.call88 rfl (fun w_ hp_=>p9 B L cb w_ (hL.up0 hp_) aA aA (fun x hx=>by have:=O x hx;omega)) ?_);rintro _ _ ⟨bs,rfl,rfl⟩;obtain ⟨M,hM⟩:∃ M:Nat,(e9 L+1).toNat=M:=⟨_,rfl⟩
  have ak:(dZ L).length=M:=by unfold dZ;rw [gO,hM]
  rw [hM];rw [hM] at O;have bh:=O L[0] (List.getElem_mem aA)
  dsimp only [aK,aJ];refine f_S (aV Tryz.call87 rfl (fun w_ hp_=>(by have h:=nV (some ⟨bs,0,none⟩) (dZ L) M w_ (fP (b:=bs) hp_ (fun j v hj=>hj)) aA aA;rw [ak] at h;exact h)) ?_);rintro _ _ ⟨rfl,rfl⟩;dsimp only [aK,aJ];refine aB 2 rfl<|aD kh7<|aX rfl (fun c26=>?_) (fun c26=>?_)
  ·
   refine aG fun ai=>aB 2 rfl<|aD ai<|aY<|cV ?_
   have F:joinE (n:Int) l L bd=90:=by unfold joinE;rw [if_neg (by rw [hz];simp),if_pos aA]
   exact cZ [[]] Tryz.results57 rfl rfl (show Fly.Sub _ [[]] from aC) ⟨[],none,0,[],by rw [F];rfl,rfl,Own.nil _ _,fun _=>rfl,fun h=>by rw [F] at h;cases h⟩
  ·
   have al:=cnt_max (L:=L) aA (fun x hx=>(O x hx).1) aA (by omega:e9 (dZ L)≤bd)
   refine bV kh6<|aG fun kh9=>f_Q (aO (vs:=[_,_]) Tryz.isAgg24 Tryz.sizeOf24 rfl rfl ⟨(rdA rfl),(rdA rfl),trivial⟩) ?_
   refine f_S (aV Tryz.call89 rfl (fun w_ hp_=>Pairs_spec (n:Int) A l cap w_ (hr.up0 hp_) hl hN hok) ?_);rintro _ an Y;rw [if_pos hg,Int.toNat_natCast] at Y;obtain ⟨Ap,mp,cp,rfl,rfl,ao⟩:=Y
   dsimp only [aK,aJ];refine aB 5 rfl<|aD kh9<|aS fun kh10=>aG fun kh11=>aB 2 rfl<|aD kh11<|dX rfl aN<|bV kh10<|aG fun kh12=>aB 1 rfl ?_
   refine f_S (aV Tryz.call56 rfl (fun w_ hp_=>oM B L.length (bF L) cb w_ (hL.up0 hp_) (fun e=>by rw [e] at hL;obtain ⟨_,_,e',_⟩:=hL (fun e=>by have:=a7 L;rw [e] at this;simp at this;omega);cases e') (by rw [a7];omega) (ints_oneG _) aA) ?_);rintro bi _ ⟨bk,rfl,Z⟩;obtain ⟨bo,co,sp,rfl,rfl⟩:=Z.block aA
   dsimp only [aK,aJ];refine aB 1 rfl<|aD kh12<|aR ?_
   refine dA (α:=List Int) [2,9,11] (fun L' =>[]) (fun L' =>[[(bo,blk (bF L' ++sp) 3)],mp]) (fun L' =>JInv n l bd L L'∧JTo n l bd L L') (fun L' =>(e9 L' +1).toNat) (L) ?_ ?_ ?_ ?_
   · exact aF
   · exact aC
   · exact ⟨JInv.refl hR al,JTo.refl L⟩
   ·
    rintro L' ⟨hJ,hT⟩;have ae:L'.length=n:=(d6 hJ.right).2
    have U:L'.length=L.length:=aA
    refine aR<|aG fun kh13=>aB 3 rfl ?_
    refine f_S (aV Tryz.call90 rfl (fun w_ hp_=>(by have h:=seams_spec Ap (some ⟨bo,0,none⟩) l (prs n l).length L' co bd w_ (eS (ao.seen hp_)) (fP (b:=bo) hp_ (fun j v hj=>eF hj)) hJ.right ab az aw;rw [U] at h;exact h)) ?_);rintro _ _ ⟨sl,ay,a2,bj,rfl,rfl,aj,hsm,av,ba⟩;dsimp only [aK,aJ];refine aB 1 rfl<|aD kh13<|aS fun kh14=>aG fun kh15=>aB 1 rfl<|dU sl162 rfl<|aB 1 rfl<|aD kh15<|aX rfl (fun c43=>?_) (fun c43=>?_)
    ·
     refine aG fun ag=>aB 3 rfl<|aD ag<|aY<|cV<|fA<|cV<|fA ?_
     have F:joinE (n:Int) l L bd=0:=by unfold joinE;rw [if_neg (by rw [hz];simp),if_neg aA]
     have aq:smL (prs n l) L' bd=[]:=by
       rw [List.eq_nil_iff_forall_not_mem];intro s hs;have:=List.length_pos_of_mem ((hsm s).2 hs)
       omega
     exact cZ [[(bo,blk (bF L' ++sp) 3)]] Tryz.results57 rfl rfl aC ⟨L',some ⟨bo,0,none⟩,co,_,by rw [U,F],rfl,(by have:=pD Z U;exact this),fun h=>absurd F h,fun _=>⟨by rw [Int.toNat_natCast];exact hJ,by rw [Int.toNat_natCast];exact aq,by rw [Int.toNat_natCast];exact hT⟩⟩
    ·
     have bc:0<sl.length:=aA
     refine bV kh14<|aG fun kh17=>aB 1 rfl ?_
     refine f_S (aV Tryz.call91 rfl (fun w_ hp_=>MinF_spec a2 ay sl w_ (eS (aj.seen hp_)) aA aA av) ?_);rintro _ _ ⟨s,rfl,ax,a1,rfl⟩;have aa:=(hsm s).1 ax
     have J:=seam_mem ae (smL_seam aa)
     have ac:∀ t∈smL (prs n l) L' bd,nT s t≤0:=fun t ht=>a1 t ((hsm t).2 ht)
     dsimp only [aK,aJ];refine f_S (cQ Tryz.zeroValue165 rfl fun ah=>?_);refine f_Z (bP Tryz.sizeOf165 rfl rfl rfl rfl cF (o5 s) rfl ?_);refine aD kh17<|aS fun kh18=>aG fun ad=>aB 1 rfl<|dU bX rfl<|aB 1 rfl<|aD ad<|aR ?_
     refine dA (α:=Nat) [2,9,11,13,48] (fun k=>[(49,.int .i64 (k:Int))]) (fun k=>[[(bo,blk (bF (mgk s.1 s.2.1 L' k)++sp) 3)],[(ah,blk [.int .i64 s.1,.int .i64 s.2.1,.int .i64 s.2.2] 165)],mp]) (fun k=>k≤L'.length) (fun k=>L'.length - k) (0) ?_ ?_ ?_ ?_
     · exact aF
     · rw [mgk_zero]
       exact aC
     · exact Nat.zero_le _
     ·
      rintro k bf;refine fF (e:=[(49,_),(2,_),(9,_),(11,_),(13,_),(48,_)]) aF ?_;refine aG fun kh20=>aB 1 rfl<|aD kh20<|aS fun kh21=>aX rfl (fun ap=>?_) (fun ap=>?_)
      ·
       have hk:k<L'.length:=aA
       refine bV kh21<|aS fun kh22=>aR<|aG fun kh23=>aB 2 rfl<|aD kh23<|aS fun kh24=>gV rfl aW<|dI 2 rfl<|dB (aL bX rfl rfl (k)) ?_
       refine dB (aH Tryz.isAgg3 rfl (rdA (v:= .int .i64 L'[k]) (eF (by rw [eG (by rw [mgk_len];exact hk),mgk_get hk])))) ?_;refine dB (aT fa165_1 rfl)<|gC Tryz.isAgg3 rfl (rdA rfl)<|dI 1 rfl<|eI<|bO kh24<|aX rfl (fun c58=>?_) (fun c58=>?_)
       ·
        have au:=mgk_yes (a:=s.1) hk c58
        refine aI<|aB 2 rfl<|cL fa165_0 rfl<|cX Tryz.isAgg3 rfl (rdA rfl)<|f_Q (aL bX rfl rfl (k))<|f_Z (bU Tryz.sizeOf3 rfl rfl rfl rfl (by rw [List.length_append,a7,mgk_len];omega) (bF (mgk s.1 s.2.1 L' (k+1))++sp) (by rw [← au,List.set_append_left _ _ (by rw [a7,mgk_len];omega)];simp [bF,List.map_set]) ?_)
        refine aZ<|dF<|bO kh22<|aI<|f_Q (a8 rfl rfl)<|aB 1 rfl<|aZ ?_
        refine cS (a6 (k+1) (by first|omega|(dsimp only;omega)|(simp;omega)) aA ?_ ?_ ?_)
        · exact aF
        · exact aF
        · exact aC
       ·
        have ar:=mgk_no (a:=s.1) hk c58
        refine k6 bo (bF (mgk s.1 s.2.1 L' (k+1))++sp) (by rw [ar]) ?_;refine dY<|dF<|bO kh22<|aI<|f_Q (a8 rfl rfl)<|aB 1 rfl<|aZ ?_
        refine cS (a6 (k+1) (by first|omega|(dsimp only;omega)|(simp;omega)) aA ?_ ?_ ?_)
        · exact aF
        · exact aF
        · exact aC
      ·
       refine cN<|cO<|cO<|eC<|bO kh18 ?_
       obtain rfl:k=L'.length:=aA
       rw [mgk_all];refine aI<|aB 1 rfl ?_
       refine f_S (d4 [[(bo,blk (bF (mrg s.1 s.2.1 L')++sp) 3)]] _ Tryz.call93 rfl (by repeat (first|exact Sub.refl|refine aM ?_)) (fun w_ hp_=>(by have h:=tidy_spec bo co (mrg s.1 s.2.1 L') sp w_ (by rw [lN];omega) (by rw [lN];omega) (pD Z (by rw [lN];omega)) hp_.owns;rw [lN,U] at h;exact h)) ?_);rintro _ _ ⟨rfl,rfl,bg⟩;dsimp only [aK,aJ];refine aZ<|dF ?_
       refine cS (a6 (tdy (mrg s.1 s.2.1 L')) (join_less hJ.right ab J.1 J.2.1 J.2.2) ⟨hJ.step aA (smL_seam aa),hT.step aa ac⟩ ?_ ?_ ?_)
       · exact aF
       · exact aF
       · exact aC
def iC (L:List Int) (j:Nat):List Bool:=L.map fun x=>decide (x=(j:Int))
theorem lG (L:List Int) (j:Nat):(iC L j).length=L.length:=by simp [iC]
def kpTo (L:List Int) (j k:Nat):List Bool:=L.mapIdx fun i x=>decide (i<k∧x=(j:Int))
theorem kpTo_len (L:List Int) (j k:Nat):(kpTo L j k).length=L.length:=by simp [kpTo]
theorem kpTo_zero (L:List Int) (j:Nat):kpTo L j 0=List.replicate L.length false:=by
 refine List.ext_getElem (by simp [kpTo]) fun i h1 h2=>?_;simp [kpTo]
theorem kpTo_next {L:List Int} {j k:Nat} (h:k<L.length):(kpTo L j k).set k (decide (L[k]=(j:Int)))=kpTo L j (k+1):=by
 refine List.ext_getElem (by simp [kpTo]) fun i h1 h2=>?_;have h3:i<L.length:=by simpa [kpTo] using h2
 by_cases hi:k=i
 ·subst hi;simp [kpTo]
 ·rw [List.getElem_set_ne hi]
  simp only [kpTo,List.getElem_mapIdx];apply decide_eq_decide.2;constructor<;>rintro ⟨J,F⟩<;>exact ⟨aA,F⟩
theorem kpTo_all (L:List Int) (j:Nat):kpTo L j L.length=iC L j:=by
 refine List.ext_getElem (by simp [kpTo,iC]) fun i h1 h2=>?_;have h3:i<L.length:=by simpa [iC] using h2
 simp [kpTo,iC,h3]
abbrev eN (L:List Int) (j:Nat):List Int:=gZ (iC L j)
def dV (l:List Arc) (L:List Int) (j:Nat):List Int:=(ordR ((eN L j).length:Int) (fJ (iC L j) l)).1
def putAt (vs ord:List Int) (i:Nat):Nat:=(vs.getD (ord.getD i 0).toNat 0).toNat
def j4 (vs ord:List Int) (b:Nat) (nx:Int) (out:List Int):Nat→List Int
 |0=>out
 |i+1=>(j4 vs ord b nx out i).set (putAt vs ord i) (nx+((i / b:Nat):Int))
theorem putTo_len (vs ord:List Int) (b:Nat) (nx:Int) (out:List Int):∀ i,(j4 vs ord b nx out i).length=out.length
 |0=>rfl
 |i+1=>by unfold j4;rw [List.length_set,putTo_len vs ord b nx out i]
def eE (l:List Arc) (L:List Int) (b:Nat):Nat→List Int×Int
 |0=>(L,(L.length:Int))
 |j+1=>if cnt L j≤b then eE l L b j else (j4 (eN L j) (dV l L j) b (eE l L b j).2 (eE l L b j).1 (dV l L j).length,(eE l L b j).2+((((dV l L j).length+b - 1) / b:Nat):Int))
theorem jZ (l:List Arc) (L:List Int) (b:Nat):∀ j,(eE l L b j).1.length=L.length
 |0=>rfl
 |j+1=>by unfold eE;split;exact jZ l L b j;rw [putTo_len,jZ l L b j]
def cutL (l:List Arc) (L:List Int) (b:Nat):List Int:=tdy (eE l L b (e9 L+1).toNat).1
structure CutOk (l:List Arc) (L:List Int) (j:Nat):Prop where
 has:(eN L j).length≠0
 few:(eN L j).length≤L.length
 good:cG ((eN L j).length:Int) (fJ (iC L j) l)=(0,0)
 ord:ordR ((eN L j).length:Int) (fJ (iC L j) l)=(dV l L j,0)
 rng:∀ x∈dV l L j,0≤x∧x<((eN L j).length:Int)
 nd:(dV l L j).Nodup
 all:∀ u,u<(eN L j).length→(u:Int)∈dV l L j
 olen:(dV l L j).length≤(eN L j).length
theorem cut_ok {l:List Arc} {L:List Int} {j:Nat} (hn:L.length≤1024) (hl:l.length≤8192) (hj:0<cnt L j):CutOk l L j:=by
 have J:=lG L j
 have hne:(eN L j).length≠0:=by
  have:(j:Int)∈L:=Classical.byContradiction fun h=>by have:=kO h;rw [cnt_is] at hj;omega
  obtain ⟨v,hv,e⟩:=List.mem_iff_getElem.1 this
  exact verts_ne (v:=v) aA (by simp [iC,e])
 have hg:=sub_good (keep:=iC L j) (l:=l) aA hl hne
 obtain ⟨O,F⟩:=pH (n:=(eN L j).length) (l:=fJ (iC L j) l) (by rw [eN,hg])
 have ho:=ord_ok F (eN L j).length (Nat.le_refl _)
 have e:ordR ((eN L j).length:Int) (fJ (iC L j) l)=((eW (eN L j).length (fun v:Nat=>dS (v:Int) (fJ (iC L j) l)) (eN L j).length).1,0):=by
  unfold ordR
  rw [if_neg (by rw [eN,hg];simp),Int.toNat_natCast]
 have e1:dV l L j=(eW (eN L j).length (fun v:Nat=>dS (v:Int) (fJ (iC L j) l)) (eN L j).length).1:=by unfold dV;rw [e]
 refine ⟨hne,?_,hg,by rw [e,e1],?_,?_,?_,?_⟩
 ·have:=verts_le (iC L j);rw [J] at this;exact this
 ·rw [e1];exact ho.rng
 ·rw [e1];exact ho.nd
 ·rw [e1];exact ho.all
 ·rw [e1];exact pR ho.rng ho.nd
theorem CutOk.at {l:List Arc} {L:List Int} {j:Nat} (h:CutOk l L j) {i:Nat} (hi:i<(dV l L j).length):∃ q,(dV l L j)[i]=((q:Nat):Int)∧∃ hq:q<(eN L j).length,∃ u,(eN L j)[q]=((u:Nat):Int)∧(∃ J:u<L.length,L[u]=(j:Int))∧putAt (eN L j) (dV l L j) i=u∧iD (iC L j) u=q:=by
 have hr:=h.rng _ (List.getElem_mem hi)
 obtain ⟨q,hq⟩:∃ q:Nat,(dV l L j)[i]=(q:Int):=⟨_,(Int.toNat_of_nonneg hr.1).symm⟩
 rw [hq] at hr;obtain ⟨u,J,e1,e2,U⟩:=verts_get (keep:=iC L j) (i:=q) (by show q<(eN L j).length;omega)
 have F:q<(eN L j).length:=aA
 have O:(eN L j)[q]=(u:Int):=by have:(eN L j)[q]? =some (u:Int):=e1;rw [List.getElem?_eq_getElem F] at this;exact Option.some.inj this
 rw [lG] at J;refine ⟨q,hq,F,u,O,⟨J,by simpa [iC] using e2⟩,?_,U⟩
 unfold putAt
 rw [List.getD_eq_getElem?_getD,List.getD_eq_getElem?_getD,List.getElem?_eq_getElem hi,Option.getD_some,hq,Int.toNat_natCast,List.getElem?_eq_getElem F,Option.getD_some,O,Int.toNat_natCast]
theorem cutTo_next {l:List Arc} {L:List Int} {b:Nat} (hn:L.length≤1024) (hl:l.length≤8192) (hb:0<b):∀ j,(L.length:Int)≤(eE l L b j).2∧(eE l L b j).2≤1024+(j:Int)*2048
 |0=>by unfold eE;simp;omega
 |j+1=>by
  have ih:=cutTo_next (l:=l) hn hl hb j
  unfold eE
  split
  ·omega
  ·have hc:=cut_ok (l:=l) hn hl (show 0<cnt L j by omega)
   have h1:=hc.olen
   have h2:=hc.few
   have:((dV l L j).length+b - 1) / b≤2048:=by
    refine Nat.div_le_of_le_mul ?_;have:b*1≤b*2048:=Nat.mul_le_mul_left b (by decide)
    rcases Nat.lt_or_ge b 1025 with h|h
    ·have:1*2048≤b*2048:=Nat.mul_le_mul_right 2048 hb
     omega
    ·omega
   generalize ((dV l L j).length+b - 1) / b=q at*
   omega
theorem qn (a b:Nat):(0:Int)≤((a / b:Nat):Int):=Int.natCast_nonneg _
theorem CutOk.inj {l:List Arc} {L:List Int} {j:Nat} (h:CutOk l L j) {i k:Nat} (hi:i<(dV l L j).length) (hk:k<(dV l L j).length) (e:putAt (eN L j) (dV l L j) i=putAt (eN L j) (dV l L j) k):i=k:=by
 obtain ⟨q,hq,_,u,_,_,U,hr⟩:=h.at hi
 obtain ⟨X,F,_,Y,_,_,O,J⟩:=h.at hk
 rw [U,O] at e;subst e;have:q=X:=by rw [← hr,← J]
 subst this;refine Classical.byContradiction fun hne=>?_;have hn:=h.nd
 rcases Nat.lt_or_gt_of_ne hne with hlt|hlt
 ·exact List.pairwise_iff_getElem.1 hn i k hi hk hlt (by rw [hq,F])
 ·exact List.pairwise_iff_getElem.1 hn k i hk hi hlt (by rw [hq,F])
theorem CutOk.cover {l:List Arc} {L:List Int} {j:Nat} (h:CutOk l L j) {v:Nat} (hv:v<L.length) (e:L[v]=(j:Int)):∃ i,i<(dV l L j).length∧putAt (eN L j) (dV l L j) i=v:=by
 have F:v<(iC L j).length:=by rw [lG];exact hv
 have J:(iC L j)[v]=true:=by simp [iC,e]
 have hr:=oX F J
 obtain ⟨i,hi,X⟩:=List.mem_iff_getElem.1 (h.all _ hr)
 obtain ⟨q,hq,_,u,_,⟨Y,U⟩,hp,O⟩:=h.at hi
 refine ⟨i,hi,hp.trans ?_⟩;have:q=iD (iC L j) v:=by rw [X] at hq;omega
 exact vrank_inj (by rw [lG];exact Y) F (by simp [iC,U]) J (by rw [O,this])
structure PutI (vs ord:List Int) (b:Nat) (nx:Int) (o p:List Int) (i:Nat):Prop where
 len:p.length=o.length
 rest:∀ v,(∀ k,k<i→putAt vs ord k≠v)→p[v]? =o[v]?
 told:∀ k,k<i→p[putAt vs ord k]? =some (nx+((k / b:Nat):Int))
 old:∀ y,y<nx→gK p y≤gK o y
 new:∀ c:Nat,gK p (nx+(c:Int))≤min (i - c*b) b
theorem put_inv {l:List Arc} {L o:List Int} {j b:Nat} {nx:Int} (h:CutOk l L j) (hb:0<b) (hl:o.length=L.length) (hn:∀ x∈o,x<nx):∀ i,i≤(dV l L j).length→PutI (eN L j) (dV l L j) b nx o (j4 (eN L j) (dV l L j) b nx o i) i
 |0,_=>by
  refine ⟨rfl,fun _ _=>rfl,fun k hk=>aA,fun y _=>Nat.le_refl _,fun c=>?_⟩
  show gK o (nx+(c:Int))≤_
  rw [kO fun hm=>by have:=hn _ hm;omega];omega
 |i+1,hi=>by
  have ih:=put_inv (o:=o) (nx:=nx) (b:=b) h hb hl hn i aA
  obtain ⟨q,hq,_,u,_,⟨U,_⟩,hp,_⟩:=h.at (i:=i) aA
  have J:=cntI_set (L:=j4 (eN L j) (dV l L j) b nx o i) (i:=u) (by rw [ih.len];omega) (nx+((i / b:Nat):Int))
  show PutI _ _ _ _ _ ((j4 (eN L j) (dV l L j) b nx o i).set (putAt (eN L j) (dV l L j) i) _) _
  rw [hp];have F:=Nat.div_add_mod i b
  have O:=Nat.mod_lt i hb
  refine ⟨by rw [List.length_set,ih.len],fun v hv=>?_,fun k hk=>?_,fun y hy=>?_,fun c=>?_⟩
  ·rw [List.getElem?_set_ne (by have:=hv i aA;rw [hp] at this;exact this)]
   exact ih.rest v fun k hk=>hv k aA
  ·by_cases e:k=i
   ·subst e
    rw [hp,List.getElem?_set_self (by rw [ih.len];omega)]
   ·rw [List.getElem?_set_ne (fun e' =>e (h.inj aA aA (by rw [hp,e'])))]
    exact ih.told k aA
  ·have h1:=J y
   have h2:=ih.old y hy
   rw [if_neg (show ¬ nx+((i / b:Nat):Int)=y by have:=qn i b;omega)] at h1;omega
  ·have h1:=J (nx+(c:Int))
   have h2:=ih.new c
   by_cases e:i / b=c
   ·rw [if_pos (show nx+((i / b:Nat):Int)=nx+(c:Int) by omega)] at h1
    rw [e] at F;rw [Nat.mul_comm] at F
    generalize c*b=z at*
    omega
   ·rw [if_neg (show ¬ nx+((i / b:Nat):Int)=nx+(c:Int) by omega)] at h1
    have:i<c*b∨c*b+b≤i:=by
     rcases Nat.lt_or_gt_of_ne e with hlt|hlt
     ·left
      have h3:=Nat.mul_le_mul_right b (show i / b+1≤c from hlt)
      rw [Nat.succ_mul] at h3;rw [Nat.mul_comm] at F;omega
     ·right
      have h3:=Nat.mul_le_mul_right b (show c+1≤i / b from hlt)
      rw [Nat.succ_mul] at h3;rw [Nat.mul_comm] at F;omega
    generalize c*b=z at*
    omega
structure CutI (L:List Int) (b j:Nat) (o:List Int) (nx:Int):Prop where
 len:o.length=L.length
 low:(L.length:Int)≤nx
 same:∀ v (h:v<L.length),(j:Int)≤L[v]∨gK L L[v]≤b→o[v]? =some L[v]
 new:∀ v (h:v<L.length),L[v]<(j:Int)→b<gK L L[v]→∃ z,o[v]? =some z∧(L.length:Int)≤z∧z<nx
 fine:∀ u v (hu:u<L.length) (hv:v<L.length),o[u]? =o[v]? →L[u]=L[v]
 size:∀ y,(L.length:Int)≤y→gK o y≤b
theorem CutI.rng {L:List Int} {b j:Nat} {o:List Int} {nx:Int} (h:CutI L b j o nx) (O:∀ x∈L,0≤x∧x<(L.length:Int)):∀ x∈o,x<nx:=fun x hx=>by
 obtain ⟨v,hv,e⟩:=List.mem_iff_getElem.1 hx
 have F:v<L.length:=by rw [← h.len];exact hv
 have e' :o[v]? =some x:=by rw [List.getElem?_eq_getElem hv,e]
 have hr:=O _ (List.getElem_mem F)
 have J:=h.low
 by_cases hc:(j:Int)≤L[v]∨gK L L[v]≤b
 ·have:=h.same v F hc
  rw [e'] at this;have:=Option.some.inj this
  omega
 ·obtain ⟨z,h1,h2,h3⟩:=h.new v F aA aA
  rw [e'] at h1;have:=Option.some.inj h1
  omega
theorem cut_inv {l:List Arc} {L:List Int} {b:Nat} (hn:L.length≤1024) (hl:l.length≤8192) (hb:0<b) (X:∀ x∈L,0≤x∧x<(L.length:Int)):∀ j,CutI L b j (eE l L b j).1 (eE l L b j).2
 |0=>by
  refine ⟨rfl,Int.le_refl _,fun v h _=>List.getElem?_eq_getElem h,fun v h h1=>?_,fun u v J hv e=>?_,fun y hy=>?_⟩
  ·have:=X _ (List.getElem_mem h);omega
  ·have e' :L[u]? =L[v]? :=e
   rw [List.getElem?_eq_getElem J,List.getElem?_eq_getElem hv] at e';exact Option.some.inj e'
  ·show gK L y≤b
   rw [kO fun hm=>by have:=X _ hm;omega];omega
 |j+1=>by
  have ih:=cut_inv (l:=l) hn hl hb X j
  unfold eE
  by_cases hc:cnt L j≤b
  ·rw [if_pos hc]
   rw [cnt_is] at hc;refine ⟨ih.len,ih.low,fun v h h1=>ih.same v h ?_,fun v h h1 h2=>ih.new v h ?_ h2,ih.fine,ih.size⟩
   ·by_cases e:L[v]=(j:Int)
    ·right;rw [e];exact hc
    ·rcases h1 with h1|h1
     ·left;omega
     ·exact .inr h1
   ·refine Classical.byContradiction fun hne=>?_
    have:L[v]=(j:Int):=aA
    rw [this] at h2;omega
  ·rw [if_neg hc]
   have U:=cut_ok (l:=l) hn hl (show 0<cnt L j by omega)
   have Y:=put_inv U hb ih.len (ih.rng X) (dV l L j).length (Nat.le_refl _)
   rw [cnt_is] at hc;have ab:=ih.low
   have F:∀ v (h:v<L.length),L[v]≠(j:Int)→(j4 (eN L j) (dV l L j) b (eE l L b j).2 (eE l L b j).1 (dV l L j).length)[v]? =(eE l L b j).1[v]? :=fun v h hne=>Y.rest v fun k hk e=>by
    obtain ⟨_,_,_,u,_,⟨J,eu⟩,hp,_⟩:=U.at hk
    rw [hp] at e;subst e;exact hne eu
   have O:∀ v (h:v<L.length),L[v]=(j:Int)→∃ k,k<(dV l L j).length∧(j4 (eN L j) (dV l L j) b (eE l L b j).2 (eE l L b j).1 (dV l L j).length)[v]? =some ((eE l L b j).2+((k / b:Nat):Int)):=fun v h e=>by
    obtain ⟨k,hk,rfl⟩:=U.cover h e
    exact ⟨k,hk,Y.told k hk⟩
   have aa:∀ k,k<(dV l L j).length→((k / b:Nat):Int)<((((dV l L j).length+b - 1) / b:Nat):Int):=fun k hk=>by
    have:k / b+1≤((dV l L j).length+b - 1) / b:=by
     rw [← Nat.add_div_right k hb];exact Nat.div_le_div_right aA
    omega
   have hlt:∀ v (h:v<L.length) z,(eE l L b j).1[v]? =some z→z<(eE l L b j).2:=fun v h z e=>ih.rng X z (List.mem_of_getElem? e)
   refine ⟨by rw [Y.len,ih.len],by dsimp only;have:=qn ((dV l L j).length+b - 1) b;omega,fun v h h1=>?_,fun v h h1 h2=>?_,fun u v J hv e=>?_,fun y hy=>?_⟩
   ·have hne:L[v]≠(j:Int):=by
     rcases h1 with h1|h1
     ·omega
     ·intro e;rw [e] at h1;exact hc h1
    rw [F v h hne];refine ih.same v h ?_
    rcases h1 with h1|h1
    ·left;omega
    ·exact .inr h1
   ·by_cases e:L[v]=(j:Int)
    ·obtain ⟨k,hk,Z⟩:=O v h e
     have:=aa k hk
     have h6:=qn k b
     exact ⟨_,Z,aA,by dsimp only;omega⟩
    ·rw [F v h e]
     obtain ⟨z,h3,h4,h5⟩:=ih.new v h aA h2
     have h6:=qn ((dV l L j).length+b - 1) b
     exact ⟨z,h3,h4,by dsimp only;omega⟩
   ·by_cases e1:L[u]=(j:Int)<;>by_cases e2:L[v]=(j:Int)
    ·rw [e1,e2]
    ·obtain ⟨k,hk,Z⟩:=O u J e1
     rw [Z,F v hv e2] at e;have:=hlt v hv _ e.symm
     have h6:=qn k b
     omega
    ·obtain ⟨k,hk,Z⟩:=O v hv e2
     rw [Z,F u J e1] at e;have:=hlt u J _ e
     have h6:=qn k b
     omega
    ·rw [F u J e1,F v hv e2] at e
     exact ih.fine u v J hv e
   ·dsimp only
    by_cases h1:y<(eE l L b j).2
    ·exact Nat.le_trans (Y.old y h1) (ih.size y hy)
    ·have:=Y.new (y - (eE l L b j).2).toNat
     rw [show (eE l L b j).2+(((y - (eE l L b j).2).toNat:Nat):Int)=y by omega] at this;omega
theorem cut_holds {l:List Arc} {L:List Int} {n b:Nat} (hR:eH (n:Int) L=true) (U:1≤n) (hn:n≤1024) (hl:l.length≤8192) (hb:0<b):
  eH (n:Int) (cutL l L b)=true∧(∀ y,gK (cutL l L b) y≤b)∧∀ u v:Nat,u<n→v<n→lab (cutL l L b) (u:Int)=lab (cutL l L b) (v:Int)→lab L (u:Int)=lab L (v:Int):=by
 obtain rfl:L.length=n:=(d6 hR).2
 have J:=e5 hR U
 have F:=cut_inv (l:=l) hn hl hb (fun x hx=>by have:=J x hx;omega) (e9 L+1).toNat
 obtain ⟨M,hM⟩:∃ M:Nat,(e9 L+1).toNat=M:=⟨_,rfl⟩
 rw [hM] at F J;obtain ⟨o,ho⟩:∃ o,(eE l L b M).1=o:=⟨_,rfl⟩
 obtain ⟨nx,Z⟩:∃ nx,(eE l L b M).2=nx:=⟨_,rfl⟩
 have ec:cutL l L b=tdy o:=by unfold cutL;rw [hM,ho]
 rw [ho,Z] at F;rw [ec]
 have aa:∀ y,gK o y≤b:=fun y=>by
  by_cases hy:(L.length:Int)≤y
  ·exact F.size y hy
  ·by_cases O:gK L y≤b
   ·refine Nat.le_trans ?_ O
    have key:∀ (p q:List Int),p.length=q.length→(∀ v (h:v<p.length) (h' :v<q.length),p[v]=y→q[v]=y)→gK p y≤gK q y:=by
     intro p
     induction p with
     |nil=>intro q _ _;exact Nat.zero_le _
     |cons x p ihp=>
      intro q hl hq
      cases q with
      |nil=>cases hl
      |cons z q=>
       have h1:=ihp q (by simpa using hl) (fun v h h' e=>by have:=hq (v+1) (by simpa using h) (by simpa using h') (by simpa using e);simpa using this)
       have h2:=hq 0 aN aN
       unfold gK at h1 ⊢
       rw [List.filter_cons,List.filter_cons]
       by_cases e:x=y
       ·have:=h2 e
        simp only [List.getElem_cons_zero] at this;rw [if_pos (by simpa using e),if_pos (by simpa using this)];simp only [List.length_cons];omega
       ·rw [if_neg (by simpa using e)]
        split
        ·simp only [List.length_cons];omega
        ·exact h1
    refine key o L F.len fun v h h' e=>?_
    by_cases hc:(M:Int)≤L[v]∨gK L L[v]≤b
    ·have:=F.same v h' hc
     rw [List.getElem?_eq_getElem h,e] at this;exact (Option.some.inj this).symm
    ·obtain ⟨z,h1,h2,h3⟩:=F.new v h' aA aA
     rw [List.getElem?_eq_getElem h,e] at h1;have:=Option.some.inj h1
     omega
   ·have:y∉o:=fun hm=>by
     obtain ⟨v,hv,e⟩:=List.mem_iff_getElem.1 hm
     have h' :v<L.length:=by rw [← F.len];exact hv
     by_cases hc:(M:Int)≤L[v]∨gK L L[v]≤b
     ·have:=F.same v h' hc
      rw [List.getElem?_eq_getElem hv,e] at this;have:=Option.some.inj this
      rw [← this] at hc
      rcases hc with hc|hc
      ·have:=J y (by rw [this];exact List.getElem_mem h');omega
      ·exact O hc
     ·obtain ⟨z,h1,h2,h3⟩:=F.new v h' aA aA
      rw [List.getElem?_eq_getElem hv,e] at h1;have:=Option.some.inj h1
      omega
    rw [kO this];omega
 refine ⟨right_tdy F.len,fun y=>?_,fun u v Y hv e=>?_⟩
 ·have:=cntI_tdy (L:=o) (bd:=(b:Int)) aA (fun y=>by have:=aa y;omega) y
  omega
 ·have X:u<o.length:=by rw [F.len];exact Y
  have ov:v<o.length:=by rw [F.len];exact hv
  rw [tdy_labN X ov,lO X,lO ov] at e;rw [lO Y,lO hv];exact F.fine u v Y hv (by rw [List.getElem?_eq_getElem X,List.getElem?_eq_getElem ov,e])
structure LSee (n:Nat) (rows:Nat→List Int) (L S:List Int) (bs:Nat) (w:World) (Al:Option Addr) (cl bo bz:Nat) (vs:List Value):Prop where
 cells:Ro (Fr w []) w (some ⟨bs,0,none⟩) [.slice Al L.length cl,.slice (some ⟨bo,0,none⟩) n n,.slice (some ⟨bz,0,none⟩) S.length S.length]
 labs:Ro (Fr w []) w Al (bF L)
 side:Ro (Fr w []) w (some ⟨bo,0,none⟩) vs
 lv:vs.length=n
 row:∀ v,v<n→∃ A c,vs[v]? =some (.slice A (rows v).length c)∧Ro (Fr w []) w A (bF (rows v))
 size:Ro (Fr w []) w (some ⟨bz,0,none⟩) (bF S)
theorem LSee.up0 {n:Nat} {rows:Nat→List Int} {L S:List Int} {bs:Nat} {w w' :World} {Al:Option Addr} {cl bo bz:Nat} {vs:List Value} {m:Seg} (h:LSee n rows L S bs w Al cl bo bz vs) (hp:Hp (Fr w []) w m w'):LSee n rows L S bs w' Al cl bo bz vs:=
 ⟨h.cells.up0 hp,h.labs.up0 hp,h.side.up0 hp,h.lv,fun v hv=>by obtain ⟨A,c,h1,h2⟩:=h.row v hv;exact ⟨A,c,h1,h2.up0 hp⟩,h.size.up0 hp⟩
structure LOk (n:Nat) (rows:Nat→List Int) (L S:List Int):Prop where
 n1:1≤n∧n≤1024
 len:L.length=n
 lab:∀ x∈L,0≤x∧x<(S.length:Int)
 slen:S.length≤1024
 rlen:∀ v,v<n→(rows v).length≤16384
 rok:∀ v,v<n→∀ u∈rows v,0≤u∧u<(n:Int)
 sz:∀ x∈S,0≤x∧x≤1024
structure RowsC (E:TypeId) (n:Nat) (rows:Nat→List Int) (vs:List Value) (ms:List Seg):Prop where
 lv:vs.length=n
 lm:ms.length=n
 own : ∀ i (h : i < n), ∃ A c, vs[i]? = some (.slice A (rows i).length (rows i).length) ∧ Own E 1 (.slice A (rows i).length c) (rows i).length (bF (rows i)) (ms[i]'(by rw [lm]; exact h))
abbrev pM (bs:Nat) (Al:Option Addr) (cl:Nat) (L:List Int) (ml:Seg) (bo n:Nat) (vs:List Value) (G:Seg) (bz:Nat) (S:List Int):List Seg:=
 [[(bs,blk [.slice Al L.length cl,.slice (some ⟨bo,0,none⟩) n n,.slice (some ⟨bz,0,none⟩) S.length S.length] 234)],ml,[(bo,blk vs 25)],G,[(bz,blk (bF S) 3)]]
def LRep (n:Nat) (rows:Nat→List Int) (L S:List Int) (bs:Nat) (m:Seg):Prop:=∃ Al cl ml bo vs ms bz,m.Perm (pM bs Al cl L ml bo n vs ms.flatten bz S).flatten∧Own 3 1 (.slice Al L.length cl) L.length (bF L) ml∧RowsC 3 n rows vs ms
theorem own_ints {E b c:Nat} {L L2:List Int} {sp:List Value} (h:Own E 1 (.slice (some ⟨b,0,none⟩) L.length c) L.length (bF L) [(b,blk (bF L++sp) E)]) (hl:L2.length=L.length):Own E 1 (.slice (some ⟨b,0,none⟩) L2.length c) L2.length (bF L2) [(b,blk (bF L2++sp) E)]:=by
 obtain ⟨_,h|⟨b',c',J,e,hm,h1,h2,h3⟩⟩:=h
 ·obtain ⟨e,_⟩:=h;cases e
 ·cases e
  have F:bF L++sp=bF L++J:=by simpa using hm
  have F:=List.append_cancel_left F
  subst F;exact ⟨by simp [bF],.inr ⟨b,c,sp,rfl,rfl,aA,h2,by rw [hl];exact h3⟩⟩
theorem aroundL_spec (n:Nat) (rows:Nat→List Int) (L S:List Int) (bs:Nat) (Al:Option Addr) (cl bo bz:Nat) (vs:List Value) (v:Nat) (w:World) (hs:LSee n rows L S bs w Al cl bo bz vs) (U:LOk n rows L S) (hv:v<n):
    Meets Tryz.prog 172 [.pointer (some ⟨bs,0,none⟩),.int .i64 (v:Int)] w [] (fun u own' =>∃ bm ents c,u= .map (some bm)∧own' =[[(bm,e7 (fun x:Int=> .int .i64 x) ents c)]]∧MOk ents c∧Cnts L (rows v) ents):=by
 obtain ⟨_,_,ab,J,Y⟩:=hs.cells aN
 cases ab
 have hn:=U.n1
 have ao:=U.len
 have ap:=U.slen
 obtain ⟨Ar,cr,ai,ae⟩:=hs.row v hv
 obtain ⟨_,_,aa,ak,aj⟩:=hs.side (fun e=>by have:=hs.lv;rw [e] at this;simp at this;omega)
 cases aa
 have au:=U.rlen v hv
 obtain ⟨_,_,ar⟩:∃ bl off,True:=⟨0,0,trivial⟩
 refine bE Tryz.func172 rfl Tryz.ntmps172 rfl Owns.nil<|aG fun kh1=>aB 1 rfl<|aD kh1<|aG fun kh2=>f_S (iU fun b8=>?_)
 refine aB 1 rfl<|aD kh2<|aS fun kh3=>aG fun al=>aB 1 rfl<|f_Q (dH rfl)<|cL fa234_1 rfl<|f_Q (aH Tryz.isAgg32 rfl (rdS J (Y 1 _ rfl)))<|aB 1 rfl<|f_Q (aL gL rfl rfl (0+v)) ?_
 refine f_Q (aH Tryz.isAgg25 rfl (rdS ak (aj v _ ai)))<|dU bX rfl<|aB 1 rfl<|aD al<|aR ?_
 refine dA (α:=Nat×List (Int×Value×Nat)×Nat) [0,5,15,16] (fun ⟨k,ents,c⟩=>[(17,.int .i64 (k:Int))]) (fun ⟨k,ents,c⟩=>[[(b8,e7 (fun x:Int=> .int .i64 x) ents c)]]) (fun ⟨k,ents,c⟩=>k≤(rows v).length∧MOk ents c∧Cnts L ((rows v).take k) ents) (fun ⟨k,ents,c⟩=>(rows v).length - k) (0,[],0) ?_ ?_ ?_ ?_
 ·exact aF
 ·exact aC
 ·exact ⟨aA,MOk.nil,Cnts.nil L⟩
 ·rintro ⟨k,ents,c⟩ ⟨aq,F,Z⟩;refine aG fun kh5=>aB 1 rfl<|aD kh5<|aS fun kh6=>aX rfl (fun ac=>?_) (fun ac=>?_)
  ·have hk:k<(rows v).length:=aA
   obtain ⟨br,X,rfl,ad,am⟩:=ae (fun e=>by have:=a7 (rows v);rw [e] at this;simp at this;omega)
   have hu:=U.rok v hv _ (List.getElem_mem hk)
   obtain ⟨bl,O,rfl,ag,ah⟩:=hs.labs (fun e=>by have:=a7 L;rw [e] at this;simp at this;omega)
   have an:=ncnt_le L ((rows v).take k) (lab L (rows v)[k])
   rw [List.length_take] at an;refine bV kh6<|aS fun kh7=>aR<|aG fun kh8=>f_Q (aL bX rfl rfl (X+k))<|f_Q (aH Tryz.isAgg3 rfl (d3 (enc:=(.int .i64 ·)) ad am hk))<|aB 1 rfl<|aD kh8<|aI<|aB 2 rfl ?_
   refine f_Q (dH rfl)<|cL mX rfl<|f_Q (aH Tryz.isAgg25 rfl (rdS J (Y 0 _ rfl)))<|aB 1 rfl<|f_Q (aL bX rfl rfl (O+(rows v)[k].toNat))<|f_Q (aH Tryz.isAgg3 rfl (show Rd _ _ _ _ _ (.int .i64 (lab L (rows v)[k])) by rw [oP aA];exact d3 (enc:=(.int .i64 ·)) ag ah aA)) ?_;refine f_Q (fD kt201 Tryz.zeroValue3 rfl rfl rfl (.int .i64 (pG L ((rows v).take k) (lab L (rows v)[k]):Int)) (Z _))<|f_Q (a8 rfl rfl)<|f_Z (e8 kt201 rfl rfl rfl rfl ?_)
   refine aZ<|dF<|bO kh7<|aI<|f_Q (a8 rfl rfl)<|aB 1 rfl<|aZ ?_
   refine cS (a6 (k+1,fS ents (lab L (rows v)[k]) (.int .i64 ((pG L ((rows v).take k) (lab L (rows v)[k]):Int)+1)) c,fK ents (lab L (rows v)[k]) c) (by first|omega|(dsimp only;omega)|(simp;omega)) ⟨aA,F.put _ _,Z.next hk⟩ ?_ ?_ ?_)
   ·exact aF
   ·exact aF
   ·exact aC
  ·refine cN<|cO<|cO<|eC<|bO kh3<|aG fun kh9=>aB 2 rfl<|aD kh9<|aY ?_
   exact bJ [[(b8,e7 (fun x:Int=> .int .i64 x) ents c)]] Tryz.results172 rfl (by repeat (first|exact aP|refine aM ?_)) ⟨b8,ents,c,rfl,rfl,F,by rw [List.take_of_length_le aA] at Z;exact Z⟩
theorem lnext_spec (n:Nat) (rows:Nat→List Int) (L S:List Int) (bs:Nat) (Al:Option Addr) (cl bo bz:Nat) (vs:List Value) (bd:Int) (w:World) (hs:LSee n rows L S bs w Al cl bo bz vs) (X:LOk n rows L S):
    Meets Tryz.prog 140 [.pointer (some ⟨bs,0,none⟩),.int .i64 bd] w [] (fun u own' =>u= .tuple #[.agg (mvCs (j3 L S rows bd n)).toArray,.bool (decide (0<(j3 L S rows bd n).2.2))]∧own' =[]):=by
 obtain ⟨_,_,aa,O,U⟩:=hs.cells aN
 cases aa
 have hn:=X.n1
 have ao:=X.len
 have ap:=X.slen
 refine bE Tryz.func140 rfl Tryz.ntmps140 rfl Owns.nil<|aG fun kh1=>f_S (cQ Tryz.zeroValue229 rfl fun b4=>?_)
 refine aB 1 rfl<|aD kh1<|aG fun kh2=>f_S (cQ Tryz.zeroValue229 rfl fun J=>?_)
 refine aD kh2<|aS fun kh3=>aG fun aj=>aB 1 rfl<|f_Q (dH rfl)<|cL fa234_1 rfl<|f_Q (aH Tryz.isAgg32 rfl (rdS O (U 1 _ rfl)))<|dU gL rfl<|aB 1 rfl<|aD aj ?_
 refine aR ?_;refine dA (α:=Nat) [0,1,4,6,16] (fun k=>[(17,.int .i64 (k:Int))]) (fun k=>[[(b4,blk [.int .i64 0,.int .i64 0,.int .i64 0] 229)],[(J,blk (mvCs (j3 L S rows bd k)) 229)]]) (fun k=>k≤n) (fun k=>n - k) (0) ?_ ?_ ?_ ?_
 ·exact aF
 ·exact aC
 ·exact Nat.zero_le _
 ·rintro k ar;refine aG fun kh5=>aB 1 rfl<|aD kh5<|aS fun kh6=>aX rfl (fun Z=>?_) (fun Z=>?_)
  ·have hk:k<n:=aA
   obtain ⟨bl,Y,rfl,ab,ad⟩:=hs.labs (fun e=>by have:=a7 L;rw [e] at this;simp at this;omega)
   have av:=X.rlen k hk
   refine bV kh6<|aS fun kh7=>aR<|aG fun kh8=>aB 2 rfl<|aD kh8<|aG fun kh9=>aB 1 rfl<|f_Q (dH rfl)<|cL mX rfl ?_
   refine f_Q (aH Tryz.isAgg25 rfl (rdS O (U 0 _ rfl)))<|aB 1 rfl<|f_Q (aL bX rfl rfl (Y+k))<|f_Q (aH Tryz.isAgg3 rfl (show Rd _ _ _ _ _ (.int .i64 (lab L (k:Int))) by rw [oP (by simp;omega)];exact d3 (enc:=(.int .i64 ·)) ab ad aA)) ?_;refine aB 1 rfl<|aD kh9<|aG fun kh10=>aB 2 rfl ?_
   refine f_S (aV Tryz.call172 rfl (fun w_ ai=>aroundL_spec n rows L S bs _ cl bo bz vs k w_ (hs.up0 ai) X hk) ?_);rintro _ _ ⟨bm,ents,c,rfl,rfl,al,hC⟩;dsimp only [aK,aJ];refine aB 1 rfl<|aD kh10<|aG fun kh11=>aB 1 rfl<|f_Q (dH rfl)<|cL fa234_2 rfl<|f_Q (aH Tryz.isAgg25 rfl (rdS O (U 2 _ rfl)))<|dU bX rfl<|aB 1 rfl<|aD kh11 ?_
   refine aR ?_;refine dA (α:=Nat) [0,1,4,6,7,8,9,16,17,34] (fun j=>[(35,.int .i64 (j:Int))]) (fun j=>[[(b4,blk [.int .i64 0,.int .i64 0,.int .i64 0] 229)],[(J,blk (mvCs (jN L S (rows k) bd k j (j3 L S rows bd k))) 229)],[(bm,e7 (fun x:Int=> .int .i64 x) ents c)]]) (fun j=>j≤S.length) (fun j=>S.length - j) (0) ?_ ?_ ?_ ?_
   ·exact aF
   ·exact aC
   ·exact Nat.zero_le _
   ·rintro j am;refine fF (e:=[(35,_),(0,_),(1,_),(4,_),(6,_),(7,_),(8,_),(9,_),(16,_),(17,_),(34,_)]) aF ?_;refine aG fun kh12=>aB 1 rfl<|aD kh12<|aS fun kh13=>aX rfl (fun ag=>?_) (fun ag=>?_)
    ·have hj:j<S.length:=aA
     obtain ⟨_,_,ac,ae,ak⟩:=hs.size (fun e=>by have:=a7 S;rw [e] at this;simp at this;omega)
     cases ac
     have an:=ncnt_le L (rows k) (j:Int)
     have aq:=ncnt_le L (rows k) (lab L (k:Int))
     have au:S.getD j 0=S[j]:=by simp [hj]
     refine bV kh13<|aS fun kh14=>aR<|aG fun kh15=>aB 2 rfl<|aD kh15<|aG fun kh16=>aB 2 rfl<|f_Q (fD kt201 Tryz.zeroValue3 rfl rfl rfl (.int .i64 (pG L (rows k) (j:Int):Int)) (hC _))<|aB 2 rfl ?_
     refine f_Q (fD kt201 Tryz.zeroValue3 rfl rfl rfl (.int .i64 (pG L (rows k) (lab L (k:Int)):Int)) (hC _))<|f_Q (kM rfl rfl _ (Eq.trans (d7 aA) (show _=gn L (rows k) (lab L (k:Int)) (j:Int) from rfl)))<|aB 1 rfl<|aD kh16<|aG fun kh17=>aB 4 rfl<|d8 48 rfl (fun g48=>?_) (fun g48=>?_)
     ·refine aB 2 rfl<|eA rfl rfl (fD kt201 Tryz.zeroValue3 rfl rfl rfl (.int .i64 (pG L (rows k) (j:Int):Int)) (hC _))<|aB 3 rfl<|d8 54 rfl (fun g54=>?_) (fun g54=>?_)
      ·refine aB 1 rfl<|eA rfl rfl (dH rfl)<|eA rfl rfl (aT fa234_2 rfl)<|eA rfl rfl (aH Tryz.isAgg25 rfl (rdS O (U 2 _ rfl)))<|aB 1 rfl<|eA rfl rfl (aL bX rfl rfl (0+j))<|eA rfl rfl (aH Tryz.isAgg3 rfl (d3 (enc:=(.int .i64 ·)) ae ak hj))<|aB 4 rfl<|d8 65 rfl (fun g65=>?_) (fun g65=>?_)
       ·refine aB 1 rfl<|eA rfl rfl (aT fa229_2 rfl)<|eA rfl rfl (aH Tryz.isAgg3 rfl (rdA rfl))<|aB 2 rfl<|aD kh17<|aX rfl (fun c70=>?_) (fun c70=>?_)
        ·refine aI<|aB 3 rfl<|f_Q (dL (cs:=mvCs ((k:Int),(j:Int),gn L (rows k) (lab L (k:Int)) (j:Int))) st229 rfl rfl)<|f_Z (bP Tryz.sizeOf229 rfl rfl rfl rfl cF (mvCs ((k:Int),(j:Int),gn L (rows k) (lab L (k:Int)) (j:Int))) rfl ?_)
         refine aZ<|dF<|bO kh14 ?_
         have F:jN L S (rows k) bd k (j+1) (j3 L S rows bd k)=((k:Int),(j:Int),gn L (rows k) (lab L (k:Int)) (j:Int)):=by rw [kG,mvUp,if_pos ⟨aA,aA,aA,aA⟩]
         refine k6 J (mvCs (jN L S (rows k) bd k (j+1) (j3 L S rows bd k))) (by rw [F]) ?_;refine aI<|f_Q (a8 rfl rfl)<|aB 1 rfl<|aZ ?_
         refine cS (a6 (j+1) (by first|omega|(dsimp only;omega)|(simp;omega)) aA ?_ ?_ ?_)
         ·exact aF
         ·exact aF
         ·exact aC
        ·refine dY<|dF<|bO kh14 ?_
         have F:jN L S (rows k) bd k (j+1) (j3 L S rows bd k)=jN L S (rows k) bd k j (j3 L S rows bd k):=by rw [kG,mvUp,if_neg (by rintro ⟨h1,h2,h3,h4⟩;omega)]
         refine k6 J (mvCs (jN L S (rows k) bd k (j+1) (j3 L S rows bd k))) (by rw [F]) ?_;refine aI<|f_Q (a8 rfl rfl)<|aB 1 rfl<|aZ ?_
         refine cS (a6 (j+1) (by first|omega|(dsimp only;omega)|(simp;omega)) aA ?_ ?_ ?_)
         ·exact aF
         ·exact aF
         ·exact aC
       ·refine aB 5 rfl<|aD kh17<|iJ rfl<|dY<|dF<|bO kh14 ?_
        have F:jN L S (rows k) bd k (j+1) (j3 L S rows bd k)=jN L S (rows k) bd k j (j3 L S rows bd k):=by rw [kG,mvUp,if_neg (by rintro ⟨h1,h2,h3,h4⟩;omega)]
        refine k6 J (mvCs (jN L S (rows k) bd k (j+1) (j3 L S rows bd k))) (by rw [F]) ?_;refine aI<|f_Q (a8 rfl rfl)<|aB 1 rfl<|aZ ?_
        refine cS (a6 (j+1) (by first|omega|(dsimp only;omega)|(simp;omega)) aA ?_ ?_ ?_)
        ·exact aF
        ·exact aF
        ·exact aC
      ·refine aB 16 rfl<|aD kh17<|iJ rfl<|dY<|dF<|bO kh14 ?_
       have F:jN L S (rows k) bd k (j+1) (j3 L S rows bd k)=jN L S (rows k) bd k j (j3 L S rows bd k):=by rw [kG,mvUp,if_neg (by rintro ⟨h1,h2,h3,h4⟩;omega)]
       refine k6 J (mvCs (jN L S (rows k) bd k (j+1) (j3 L S rows bd k))) (by rw [F]) ?_;refine aI<|f_Q (a8 rfl rfl)<|aB 1 rfl<|aZ ?_
       refine cS (a6 (j+1) (by first|omega|(dsimp only;omega)|(simp;omega)) aA ?_ ?_ ?_)
       ·exact aF
       ·exact aF
       ·exact aC
     ·refine aB 22 rfl<|aD kh17<|iJ rfl<|dY<|dF<|bO kh14 ?_
      have F:jN L S (rows k) bd k (j+1) (j3 L S rows bd k)=jN L S (rows k) bd k j (j3 L S rows bd k):=by rw [kG,mvUp,if_neg (by rintro ⟨h1,h2,h3,h4⟩;omega)]
      refine k6 J (mvCs (jN L S (rows k) bd k (j+1) (j3 L S rows bd k))) (by rw [F]) ?_;refine aI<|f_Q (a8 rfl rfl)<|aB 1 rfl<|aZ ?_
      refine cS (a6 (j+1) (by first|omega|(dsimp only;omega)|(simp;omega)) aA ?_ ?_ ?_)
      ·exact aF
      ·exact aF
      ·exact aC
    ·have ah:j=S.length:=aA
     refine k6 J (mvCs (j3 L S rows bd (k+1))) (by rw [mvTo_next,ah]) ?_;refine cN<|cO<|cO<|eC<|dF<|bO kh7<|aI<|f_Q (a8 rfl rfl)<|aB 1 rfl<|aZ ?_
     refine cS (a6 (k+1) (by first|omega|(dsimp only;omega)|(simp;omega)) aA ?_ ?_ ?_)
     ·exact aF
     ·exact aF
     ·exact aC
  ·refine cN<|cO<|cO<|eC<|bO kh3<|aS fun kh18=>?_
   obtain rfl:k=n:=aA
   refine c7 [[(J,blk (mvCs (j3 L S rows bd k)) 229)]] rfl<|f_T 0 rfl (aO (vs:=[_,_,_]) Tryz.isAgg229 Tryz.sizeOf229 rfl rfl ⟨(rdA rfl),(rdA rfl),(rdA rfl),trivial⟩)<|f_T 1 rfl (aT fa229_2 rfl)<|f_T 2 rfl (aH Tryz.isAgg3 rfl (rdA rfl))<|f_T 3 rfl (o_gtr rfl rfl)<|fZ 4 rfl (bP Tryz.sizeOf229 rfl rfl rfl rfl cF (mvCs (j3 L S rows bd k)) rfl ⟨aC,?_⟩)
   refine f_O 5 rfl ((bI rfl).does ⟨aC,?_⟩);refine cU aW<|bO kh18<|aY ?_
   exact gW (vs:=mvCs (j3 L S rows bd k)) [] Tryz.results140 rfl Tryz.isAgg229 Tryz.sizeOf229 rfl ⟨(rdA rfl),(rdA rfl),(rdA rfl),trivial⟩ rfl aP ⟨rfl,rfl⟩
theorem do_spec (n:Nat) (rows:Nat→List Int) (L S:List Int) (bs:Nat) (m:Seg) (v j:Nat) (g:Int) (w:World) (hS:LRep n rows L S bs m) (hO:LOk n rows L S) (hv:v<n) (hj:j<S.length) (ho:Owns w [m]):
    Meets Tryz.prog 141 [.pointer (some ⟨bs,0,none⟩),.agg (mvCs ((v:Int),(j:Int),g)).toArray] w [m] (fun u own' =>∃ m',own' =[m']∧LRep n rows (tdy (L.set v (j:Int))) (szs (sns (L.set v (j:Int))).length (tdy (L.set v (j:Int)))) bs m'):=by
 refine bE Tryz.func141 rfl Tryz.ntmps141 rfl ho ?_;obtain ⟨Al,cl,ml,bo,vs,ms,bz,hm,aa,ai⟩:=hS
 refine eP (Sub.of_perm hm) ?_
 unfold pM
 have ag:=hO.len
 have aq:=hO.n1
 obtain ⟨bl,J,rfl,rfl⟩:=aa.at_ aA
 obtain ⟨L2,X⟩:∃ L2,L2=L.set v (j:Int):=⟨_,rfl⟩
 rw [← X];have ad:L2.length=n:=by rw [X,List.length_set];exact ag
 refine aG fun ah=>f_S (cT rfl rfl fun b3=>?_);refine aD ah<|aS fun kh2=>c7 [[(bs,blk [.slice (some ⟨bl,0,none⟩) L.length cl,.slice (some ⟨bo,0,none⟩) n n,.slice (some ⟨bz,0,none⟩) S.length S.length] 234)],[(b3,blk (mvCs ((v:Int),(j:Int),g)) 229)]] rfl<|f_T 0 rfl (aU rfl)<|f_T 1 rfl (dH rfl)<|f_T 2 rfl (aT mX rfl)<|f_T 3 rfl (aH Tryz.isAgg25 rfl (rdA rfl))<|f_T 4 rfl (aT fa229_0 rfl)<|f_T 5 rfl (aH Tryz.isAgg3 rfl (rdA rfl))<|f_T 6 rfl (aT fa229_1 rfl) ?_
 refine f_T 7 rfl (aH Tryz.isAgg3 rfl (rdA rfl))<|f_T 8 rfl (aL bX rfl rfl (v))<|fZ 9 rfl (bU Tryz.sizeOf3 rfl rfl rfl rfl (by rw [List.length_append,a7];omega) (bF L2++J) (by rw [X,List.set_append_left _ _ (by rw [a7];omega)];simp [bF,List.map_set]) ⟨aC,?_⟩)
 refine cU aW<|bO kh2<|aG fun kh3=>f_S (iU fun ao=>?_)
 refine aB 1 rfl<|aD kh3<|aS fun kh4=>aG fun al=>aB 1 rfl<|f_Q (dH rfl)<|cL mX rfl<|cX Tryz.isAgg25 rfl (rdA rfl)<|dU bX rfl<|aB 1 rfl ?_
 refine aD al<|aR ?_
 refine dA (α:=Nat×List (Int×Value×Nat)×Nat) [0,4,24,25] (fun ⟨k,ents,c⟩=>[(26,.int .i64 (k:Int))]) (fun ⟨k,ents,c⟩=>[[(bs,blk [.slice (some ⟨bl,0,none⟩) L.length cl,.slice (some ⟨bo,0,none⟩) n n,.slice (some ⟨bz,0,none⟩) S.length S.length] 234)],[(bl,blk (bF (lW L2 k)++J) 3)],[(bo,blk vs 25)],ms.flatten,[(ao,e7 (fun x:Int=> .int .i64 x) ents c)]]) (fun ⟨k,ents,c⟩=>k≤n∧MOk ents c∧Nums (sns (L2.take k)) ents) (fun ⟨k,ents,c⟩=>n - k) (0,[],0) ?_ ?_ ?_ ?_
 · exact aF
 · dsimp only
   rw [tdyTo_zero];exact aC
 · exact ⟨aA,MOk.nil,Nums.nil⟩
 ·
  rintro ⟨k,ents,c⟩ ⟨au,U,F⟩;refine aG fun kh6=>aB 1 rfl<|aD kh6<|aS fun kh7=>aX rfl (fun am=>?_) (fun am=>?_)
  ·
   have hk:k<L2.length:=aA
   have O:=nC hk
   have Z:=sns_len (L:=L2) (k:=k) aA
   refine bV kh7<|aS fun kh8=>aR<|aG fun kh9=>aB 1 rfl<|f_Q (aL bX rfl rfl (k))<|f_Q (aH Tryz.isAgg3 rfl (rdA (v:= .int .i64 L2[k]) (eF (by rw [eG (by rw [iR];exact hk),tdyTo_get hk])))) ?_
   refine aB 2 rfl<|aD kh9<|aG fun kh10=>aB 2 rfl<|f_Q (o_lookup2 kt201 Tryz.zeroValue3 rfl rfl rfl (.int .i64 (if L2[k]∈sns (L2.take k) then (((sns (L2.take k)).idxOf L2[k]:Nat):Int) else 0)) (by rw [F.2];split<;>rfl) (decide (L2[k]∈sns (L2.take k))) (by rw [F.2];split<;>simp_all)) ?_
   refine aB 5 rfl<|aD kh10<|aS fun kh11=>aG fun kh12=>aB 2 rfl<|aD kh12<|eO rfl (fun c38=>?_) (fun c38=>?_)
   ·
    have hx:L2[k]∉sns (L2.take k):=by simpa using c38
    rw [if_neg hx] at O;have aj:ents.length=(sns (L2.take (k+1))).idxOf L2[k]:=by rw [O,List.idxOf_append,if_neg hx,F.1];simp
    refine aG fun ab=>aB 1 rfl<|f_Q (o_lenM kt201.und rfl)<|aB 1 rfl<|aD ab<|aI<|aB 3 rfl<|f_Z (e8 kt201 rfl rfl rfl rfl ?_)
    refine aD kh11<|aI<|aB 1 rfl<|f_Q (dH rfl)<|cL mX rfl<|cX Tryz.isAgg25 rfl (rdA rfl)<|aB 2 rfl<|f_Q (aL bX rfl rfl (k))<|f_Z (bU Tryz.sizeOf3 rfl rfl rfl rfl (by rw [List.length_append,a7,iR];omega) (bF (lW L2 (k+1))++J) (by rw [p7 hk aj,List.set_append_left _ _ (by rw [a7,iR];omega)];simp [bF,List.map_set]) ?_)
    refine aZ<|dF<|bO kh8<|aI<|f_Q (a8 rfl rfl)<|aB 1 rfl<|aZ ?_
    refine cS (a6 (k+1,fS ents L2[k] (.int .i64 (ents.length:Int)) c,fK ents L2[k] c) (by first|omega|(dsimp only;omega)|(simp;omega)) ⟨aA,U.put _ _,by rw [O];have:=F.add hx c;rw [← F.1] at this;exact this⟩ ?_ ?_ ?_)
    · exact aF
    · exact aF
    · exact aC
   ·
    have hx:L2[k]∈sns (L2.take k):=by simpa using c38
    rw [if_pos hx] at O;have ap:(sns (L2.take k)).idxOf L2[k]=(sns (L2.take (k+1))).idxOf L2[k]:=by rw [O]
    refine f_reC 7 rfl (v:= .int .i64 (((sns (L2.take k)).idxOf L2[k]:Nat):Int)) (by rw [if_pos hx]) ?_;refine bV kh11<|aI<|aB 1 rfl<|f_Q (dH rfl)<|cL mX rfl<|cX Tryz.isAgg25 rfl (rdA rfl)<|aB 2 rfl<|f_Q (aL bX rfl rfl (k))<|f_Z (bU Tryz.sizeOf3 rfl rfl rfl rfl (by rw [List.length_append,a7,iR];omega) (bF (lW L2 (k+1))++J) (by rw [p7 hk ap,List.set_append_left _ _ (by rw [a7,iR];omega)];simp [bF,List.map_set]) ?_)
    refine aZ<|dF<|bO kh8<|aI<|f_Q (a8 rfl rfl)<|aB 1 rfl<|aZ ?_
    refine cS (a6 (k+1,ents,c) (by first|omega|(dsimp only;omega)|(simp;omega)) ⟨aA,U,by rw [O];exact F⟩ ?_ ?_ ?_)
    · exact aF
    · exact aF
    · exact aC
  ·
   refine cN<|cO<|cO<|eC<|bO kh4<|aS fun kh14=>?_
   have ac:k=n:=aA
   rw [List.take_of_length_le aA] at F;have ae:=F.1
   have Z:=sns_len (L:=L2) (k:=k) aA
   rw [List.take_of_length_le aA] at Z;refine k6 bl (bF (tdy L2)++J) (by rw [ac,← ad,tdyTo_all]) ?_;refine aI<|aB 2 rfl<|f_Q (o_lenM kt201.und rfl)<|f_S (eZ eL rfl rfl ents.length rfl aA aA (bF (szs ents.length [])) (by rw [szs_nil];simp [bF,List.flatten_replicate_singleton]) fun b55=>?_)
   refine f_Q (dH rfl)<|cL fa234_2 rfl<|f_Z (bU Tryz.sizeOf25 rfl rfl rfl rfl cF [.slice (some ⟨bl,0,none⟩) L.length cl,.slice (some ⟨bo,0,none⟩) n n,.slice (some ⟨b55,0,none⟩) ents.length ents.length] rfl ?_)
   refine aD kh14<|aG fun kh15=>aB 1 rfl<|f_Q (dH rfl)<|cL mX rfl<|cX Tryz.isAgg25 rfl (rdA rfl)<|dU bX rfl<|aB 1 rfl<|aD kh15<|aR ?_
   refine dA (α:=Nat) [0,61,62] (fun q=>[(63,.int .i64 (q:Int))]) (fun q=>[[(bs,blk [.slice (some ⟨bl,0,none⟩) L.length cl,.slice (some ⟨bo,0,none⟩) n n,.slice (some ⟨b55,0,none⟩) ents.length ents.length] 234)],[(bl,blk (bF (tdy L2)++J) 3)],[(bo,blk vs 25)],ms.flatten,[(b55,blk (bF (szs ents.length ((tdy L2).take q))) 3)]]) (fun q=>q≤n) (fun q=>n - q) (0) ?_ ?_ ?_ ?_
   · exact aF
   · exact aC
   · exact Nat.zero_le _
   ·
    rintro q ar;refine fF (e:=[(63,_),(0,_),(61,_),(62,_)]) aF ?_;refine aG fun kh16=>aB 1 rfl<|aD kh16<|aS fun kh17=>aX rfl (fun an=>?_) (fun an=>?_)
    ·
     have hq:q<(tdy L2).length:=by rw [gI];omega
     have av:=tdy_rng _ (List.getElem_mem hq)
     obtain ⟨y,hy⟩:∃ y:Nat,(tdy L2)[q]=(y:Int):=⟨(tdy L2)[q].toNat,aA⟩
     have Y:y<ents.length:=aA
     have ak:=cnt_le ((tdy L2).take q) y
     rw [List.length_take] at ak;refine bV kh17<|aS fun kh18=>aR<|aG fun kh19=>f_Q (aL bX rfl rfl (q))<|f_Q (aH Tryz.isAgg3 rfl (rdA (v:= .int .i64 (y:Int)) (eF (by rw [eG hq,hy])))) ?_
     refine aB 1 rfl<|aD kh19<|aI<|aB 1 rfl<|f_Q (dH rfl)<|cL fa234_2 rfl<|cX Tryz.isAgg25 rfl (rdA rfl)<|aB 1 rfl<|f_Q (aL bX rfl rfl (y))<|f_Q (aH Tryz.isAgg3 rfl (rdA (v:= .int .i64 (cnt ((tdy L2).take q) y:Int)) (by rw [eG (by rw [gO];exact Y),kP Y]))) ?_
     refine f_Q (a8 rfl rfl)<|f_Q (aL bX rfl rfl (y))<|f_Z (bU Tryz.sizeOf3 rfl rfl rfl rfl (by rw [a7,gO];omega) (bF (szs ents.length ((tdy L2).take (q+1)))) (by rw [szs_next hq hy Y];simp [bF]) ?_)
     refine aZ<|dF<|bO kh18<|aI<|f_Q (a8 rfl rfl)<|aB 1 rfl<|aZ ?_
     refine cS (a6 (q+1) (by first|omega|(dsimp only;omega)|(simp;omega)) aA ?_ ?_ ?_)
     · exact aF
     · exact aF
     · exact aC
    ·
     refine cN<|cO<|cO<|eC ?_
     rw [List.take_of_length_le (by rw [gI];omega)];exact iP [(pM bs (some ⟨bl,0,none⟩) cl (tdy L2) [(bl,blk (bF (tdy L2)++J) 3)] bo n vs ms.flatten b55 (szs ents.length (tdy L2))).flatten] Tryz.results141 (Sub.flat (by unfold pM;rw [gI,gO,show L2.length=L.length by omega];repeat (first|exact aP|refine aM ?_))) ⟨_,rfl,by rw [← ae];exact ⟨_,cl,_,bo,vs,ms,b55,List.Perm.refl _,own_ints aa (by rw [gI];omega),ai⟩⟩
theorem glooked_zero {N:Int} {l:List Arc} {v:Int} (h:jX N l v=0):(cG N l).2=0∧0≤v∧v<N:=by
 unfold jX at h
 split at h
 ·rename_i h1;exact absurd h h1
 ·split at h
  ·simp at h
  ·rename_i h1 h2;exact ⟨by simpa using h1,aA,aA⟩
def NbΦ (N:Int) (l:List Arc) (v:Int) (u:Value) (own:List Seg):Prop:=
 ∃ A W c m,u= .tuple #[.slice A W.length W.length,.int .i64 (jX N l v)]∧own=[m]∧Own 3 1 (.slice A W.length c) W.length (bF W) m∧W=if jX N l v=0 then dS v l else []
theorem Neighbours_spec (N:Int) (A:Option Addr) (l:List Arc) (cap:Nat) (v:Int) (w:World) (hr:Ro (Fr w []) w A (l.flatMap bZ)) (hl:l.length≤9223372036854775807) (hN:I64 N) (hok:∀ x∈l,eK x):
    Meets Tryz.prog 189 [.agg #[.int .i64 N,.slice A l.length cap],.int .i64 v] w [] (NbΦ N l v):=by
 refine bE Tryz.func189 rfl Tryz.ntmps189 rfl Owns.nil<|aG fun kh1=>f_S (cT rfl rfl fun b2=>?_)
 refine aB 2 rfl<|aD kh1<|aS fun kh2=>aG fun kh3=>f_Q (aO (vs:=[_,_]) Tryz.isAgg24 Tryz.sizeOf24 rfl rfl ⟨(rdA rfl),(rdA rfl),trivial⟩)<|aB 1 rfl ?_
 refine f_S (aV Tryz.call197 rfl (fun X F=>looked_spec N A l cap v X (hr.up0 F) hl hN hok) ?_);rintro _ _ ⟨rfl,rfl⟩;dsimp only [aK,aJ];refine aB 1 rfl<|aD kh3<|aG fun kh4=>aB 2 rfl<|aD kh4<|aX rfl (fun c14=>?_) (fun c14=>?_)
 ·refine aG fun ah=>aB 3 rfl<|aD ah<|aY<|cV ?_
  exact cZ [[]] Tryz.results189 rfl rfl Sub.empty ⟨none,[],0,[],rfl,rfl,Own.nil _ _,by rw [if_neg (by simpa using c14)]⟩
 ·have hz:jX N l v=0:=by simpa using c14
  obtain ⟨ac,ao,am⟩:=glooked_zero hz
  have hlen:=(bS ac).2.2.1
  refine bV kh2<|aG fun kh6=>aB 1 rfl<|aD kh6<|aS fun kh7=>aG fun al=>cL fT rfl<|cX Tryz.isAgg22 rfl (rdA rfl)<|dU jB rfl<|aB 1 rfl ?_
  refine aD al<|aR ?_
  refine dA (α:=Nat×Value×Seg) [1,17,18] (fun ⟨i,ov,J⟩=>[(19,.int .i64 (i:Int)),(7,ov)]) (fun ⟨i,ov,J⟩=>[J,[(b2,blk [.int .i64 N,.slice A l.length cap] 24)]]) (fun ⟨i,ov,J⟩=>i≤l.length∧Own 3 1 ov ((l.take i).flatMap (nbr v)).length (bF ((l.take i).flatMap (nbr v))) J) (fun ⟨i,ov,J⟩=>l.length - i) (0,.slice none 0 0,[]) ?_ ?_ ?_ ?_
  ·exact aF
  ·exact aC
  ·exact ⟨Nat.zero_le _,Own.nil _ _⟩
  ·rintro ⟨i,ov,J⟩ ⟨an,U⟩;obtain ⟨Ao,co,rfl,ap⟩:=U.val
   have Y:=qM v (l.take i)
   rw [List.length_take] at Y;refine aG fun kh9=>aB 1 rfl<|aD kh9<|aS fun kh10=>aX rfl (fun aj=>?_) (fun aj=>?_)
   ·refine bV kh10<|aS fun kh11=>aR<|aG fun kh12=>?_
    have hi:i<l.length:=aA
    obtain ⟨bq,off,rfl,hS,hc⟩:=hr (eX bZ dD aA hi)
    refine f_Q (aL jB rfl rfl (off+i*3))<|f_Q (aO (vs:=bZ l[i]) Tryz.isAgg69 Tryz.sizeOf69 rfl rfl (f8 dD hS hc hi))<|f_S (cQ Tryz.zeroValue69 rfl fun b9=>?_)
    refine f_Z (bP Tryz.sizeOf69 rfl rfl rfl rfl cF (bZ l[i]) rfl ?_);refine aD kh12<|aR<|aG fun kh13=>cL fY rfl<|cX Tryz.isAgg3 rfl (rdA rfl)<|cL fO rfl<|cX Tryz.isAgg3 rfl (rdA rfl)<|aB 2 rfl<|aD kh13<|aX rfl (fun c23=>?_) (fun c23=>?_)
    ·refine dY<|dF<|dF<|bO kh11<|aI<|f_Q (a8 rfl rfl)<|aB 1 rfl<|aZ ?_
     refine cS (a6 (i+1,.slice Ao ((l.take i).flatMap (nbr v)).length co,J) (by first|omega|(dsimp only;omega)|(simp;omega)) ⟨aA,by rw [pJ hi,show nbr v l[i]=[] from if_pos c23,List.append_nil];exact U⟩ ?_ ?_ ?_)
     ·exact aF
     ·exact aF
     ·exact aC
    ·refine aG fun kh14=>cL fY rfl<|cX Tryz.isAgg3 rfl (rdA rfl)<|aB 3 rfl<|aD kh14<|aX rfl (fun c29=>?_) (fun c29=>?_)
     ·refine aI<|aB 1 rfl<|cL fO rfl<|cX Tryz.isAgg3 rfl (rdA rfl)<|f_S (bQ eL aA rfl rfl rfl fun b37=>?_)
      refine f_S (dE eL rfl rfl U (ys:=[.int .i64 l[i].dst]) ⟨(rdA rfl),trivial⟩ rfl rfl aA aA fun ae ai ag=>?_);refine aB 1 rfl<|aZ<|dF<|dF<|bO kh11<|aI<|f_Q (a8 rfl rfl)<|aB 1 rfl<|aZ ?_
      refine cS (a6 (i+1,ae,ai) (by first|omega|(dsimp only;omega)|(simp;omega)) ⟨aA,by rw [pJ hi,show nbr v l[i]=[l[i].dst] from by unfold nbr;rw [if_neg c23,if_pos c29],List.length_append,eJ];exact ag⟩ ?_ ?_ ?_)
      ·exact aF
      ·exact aF
      ·exact aC
     ·refine aG fun kh15=>cL fO rfl<|cX Tryz.isAgg3 rfl (rdA rfl)<|aB 3 rfl<|aD kh15<|aX rfl (fun c39=>?_) (fun c39=>?_)
      ·refine aI<|aB 1 rfl<|cL fY rfl<|cX Tryz.isAgg3 rfl (rdA rfl)<|f_S (bQ eL aA rfl rfl rfl fun b47=>?_)
       refine f_S (dE eL rfl rfl U (ys:=[.int .i64 l[i].src]) ⟨(rdA rfl),trivial⟩ rfl rfl aA aA fun aa ad ab=>?_);refine aB 1 rfl<|aZ<|dF<|dF<|bO kh11<|aI<|f_Q (a8 rfl rfl)<|aB 1 rfl<|aZ ?_
       refine cS (a6 (i+1,aa,ad) (by first|omega|(dsimp only;omega)|(simp;omega)) ⟨aA,by rw [pJ hi,show nbr v l[i]=[l[i].src] from by unfold nbr;rw [if_neg c23,if_neg c29,if_pos c39],List.length_append,eJ];exact ab⟩ ?_ ?_ ?_)
       ·exact aF
       ·exact aF
       ·exact aC
      ·refine dY<|dF<|dF<|bO kh11<|aI<|f_Q (a8 rfl rfl)<|aB 1 rfl<|aZ ?_
       refine cS (a6 (i+1,.slice Ao ((l.take i).flatMap (nbr v)).length co,J) (by first|omega|(dsimp only;omega)|(simp;omega)) ⟨aA,by rw [pJ hi,show nbr v l[i]=[] from by unfold nbr;rw [if_neg c23,if_neg c29,if_neg c39],List.append_nil];exact U⟩ ?_ ?_ ?_)
       ·exact aF
       ·exact aF
       ·exact aC
   ·refine cN<|cO<|cO<|eC<|bO kh7<|aS fun kh16=>?_
    obtain rfl:i=l.length:=aA
    rw [List.take_length] at U Y ⊢;refine aI<|aB 1 rfl ?_
    refine f_S (d4 [J] _ Tryz.call22 rfl (aM Sub.refl) (fun X F=>j9 Ao co _ J X U aA F.owns) ?_);rintro _ _ ⟨rfl,m2,rfl,ak⟩;dsimp only [aK,aJ];refine aD kh16<|aG fun kh17=>aB 1 rfl ?_
    refine f_S (d4 [m2] _ Tryz.call24 rfl (aM Sub.refl) (fun X F=>(by have h:=k8 Ao co (gT (l.flatMap (nbr v))) m2 X (by rw [e6];exact ak) (by rw [e6];omega) F.owns;rw [e6] at h;exact h)) ?_);rintro v53 _ ⟨m3,rfl,O⟩;obtain ⟨A3,c3,rfl,Z⟩:=O.val
    dsimp only [aK,aJ];refine f_S (aV Tryz.call159 rfl (fun X F=>Clip_spec A3 (cpt (gT (l.flatMap (nbr v)))).length c3 X Z.1 Z.2 (j5 O)) ?_);rintro _ _ ⟨rfl,rfl⟩;dsimp only [aK,aJ];refine aB 2 rfl<|aD kh17<|aY ?_
    exact cZ [m3] Tryz.results189 rfl rfl (by repeat (first|exact aP|refine aM ?_|refine cE rfl ?_)) ⟨A3,dS v l,c3,m3,by rw [hz];rfl,rfl,O,by rw [if_pos hz]⟩
theorem ints_oneC (l:List Int):(bF l).all (·.oneCell')=true:=by
 rw [List.all_eq_true];intro x hx;obtain ⟨s,_,rfl⟩:=List.mem_map.1 hx;rfl
theorem rep_flatL (n:Nat) (z:Value):(List.replicate n [z]).flatten=List.replicate n z:=by
 induction n with
 |zero=>rfl
 |succ n ih=>simp only [List.replicate_succ,List.flatten_cons,ih];rfl
theorem RowsC.start (E:TypeId) (n:Nat) (r:Nat→List Int):RowsC E n (fun i=>if i<0 then r i else []) (List.replicate n (.slice none 0 0)) (List.replicate n []):=
 ⟨aN,aN,fun i h=>⟨none,0,by simp [h],by simpa [bF] using Own.nil E 1⟩⟩
theorem RowsC.next {E:TypeId} {n k:Nat} {r:Nat→List Int} {vs:List Value} {ms:List Seg} (h:RowsC E n (fun i=>if i<k then r i else []) vs ms) (hk:k<n) {A:Option Addr} {c:Nat} {m:Seg} (ho:Own E 1 (.slice A (r k).length c) (r k).length (bF (r k)) m):
  RowsC E n (fun i=>if i<k+1 then r i else []) (vs.set k (.slice A (r k).length (r k).length)) (ms.set k m) where
 lv:=by rw [List.length_set];exact h.lv
 lm:=by rw [List.length_set];exact h.lm
 own:=fun i hi=>by
  by_cases e:k=i
  ·subst e
   refine ⟨A,c,?_,?_⟩
   ·rw [List.getElem?_set_self (by rw [h.lv];exact hk),if_pos aA]
   ·rw [if_pos aA,List.getElem_set_self];exact ho
  ·obtain ⟨A',c',h1,h2⟩:=h.own i hi
   refine ⟨A',c',?_,?_⟩
   ·rw [List.getElem?_set_ne e,h1]
    by_cases F:i<k
    ·rw [if_pos F,if_pos aA]
    ·rw [if_neg F,if_neg aA]
   ·rw [List.getElem_set_ne e]
    by_cases F:i<k
    ·rw [if_pos F] at h2;rw [if_pos aA];exact h2
    ·rw [if_neg F] at h2;rw [if_neg aA];exact h2
theorem RowsC.all {E:TypeId} {n:Nat} {r:Nat→List Int} {vs:List Value} {ms:List Seg} (h:RowsC E n (fun i=>if i<n then r i else []) vs ms):RowsC E n r vs ms:=
 ⟨h.lv,h.lm,fun i hi=>by have:=h.own i hi;simpa only [if_pos hi] using this⟩
theorem flat_put {ms:List Seg} {k:Nat} (hk:ms[k]? =some []) (m:Seg):(m++ms.flatten).Perm (ms.set k m).flatten:=by
 obtain ⟨hlt,he⟩:=List.getElem?_eq_some_iff.1 hk
 have h1:=gN ms k hlt
 rw [he,List.nil_append] at h1;have h2:=gN (ms.set k m) k (by simpa using hlt)
 rw [List.getElem_set_self,List.eraseIdx_set_eq] at h2;exact (h1.append_left m).trans h2.symm
theorem CloneI_spec (A:Option Addr) (len:Nat) (cs:List Value) (cap:Nat) (w:World) (hs:Ro (Fr w []) w A cs) (hn:A=none→len=0) (hl:cs.length=len*1) (hone:cs.all (·.oneCell')=true) (O:len≤1000000000):
    Meets Tryz.prog 56 [.slice A len cap] w [] (fun u own' =>∃ m,own' =[m]∧Own 3 1 u len cs m):=by
 refine bE Tryz.func56 rfl Tryz.ntmps56 rfl Owns.nil<|aG fun kh1=>aB 1 rfl<|aD kh1<|aS fun kh2=>aG fun kh3=>aB 1 rfl<|f_Q (o_eqlSl Tryz.underlying25 rfl rfl)<|aD kh3<|eO rfl (fun c4=>?_) (fun c4=>?_)
 ·obtain rfl:A=none:=by cases A<;>first|rfl|simp at c4
  obtain rfl:len=0:=hn rfl
  obtain rfl:cs=[]:=List.eq_nil_of_length_eq_zero (by simpa using hl)
  refine aG fun F=>aB 1 rfl<|aD F<|aY<|cV ?_
  exact bJ [[]] Tryz.results56 rfl Sub.empty ⟨[],rfl,Own.nil _ _⟩
 ·refine bV kh2<|aG fun kh5=>f_S (o_slice0 eL fun X=>?_)
  refine aB 1 rfl<|f_S (pF eL rfl rfl (Own.mk (b:=X) (cs:=[]) (len:=0) rfl aA) (ys:=cs) (fun hne=>by obtain ⟨b,off,e,Y,hc⟩:=hs hne;exact ⟨b,off,e,Seen.rds fun _=>⟨Y,hc⟩⟩) hl hone aA aA fun Z J U=>?_)
  refine aB 1 rfl<|aD kh5<|aY ?_
  exact bJ [J] Tryz.results56 rfl (by repeat (first|exact aP|refine aM ?_)) ⟨J,rfl,by simpa using U⟩
theorem lbegin_spec (n:Nat) (A B:Option Addr) (l:List Arc) (cap:Nat) (L:List Int) (cb:Nat) (w:World) (hr:Ro (Fr w []) w A (l.flatMap bZ)) (hok:∀ x∈l,eK x) (hg:(cG (n:Int) l).2=0) (hL:Ro (Fr w []) w B (bF L)) (ap:eH (n:Int) L=true):
    Meets Tryz.prog 171 [.agg #[.int .i64 (n:Int),.slice A l.length cap],.slice B L.length cb] w [] (fun u own' =>∃ bs m,u= .pointer (some ⟨bs,0,none⟩)∧own' =[m]∧LRep n (fun v=>dS (v:Int) l) L (dZ L) bs m):=by
 obtain ⟨aq,av,hlen,ay⟩:=bS hg
 have Z:=ap
 unfold eH at Z
 simp only [Bool.and_eq_true,decide_eq_true_eq] at Z;have ar:L.length=n:=aA
 have h0:0<L.length:=aA
 have ah:=rgo_pos Z.1
 have al:=rgo_lt Z.1
 have au:0≤e9 L:=Int.le_trans (ah L[0] (List.getElem_mem h0)) (iI (List.getElem_mem h0))
 have ax:e9 L≤1023:=mU h0 fun x hx=>by have:=al x hx;omega
 obtain ⟨M,hM⟩:∃ M:Nat,e9 L+1=(M:Int):=⟨(e9 L+1).toNat,aA⟩
 have hN:I64 (n:Int):=by unfold I64;omega
 obtain ⟨bb,ob,rfl,am,an⟩:=hL (fun e=>by have:=a7 L;rw [e] at this;simp at this;omega)
 refine bE Tryz.func171 rfl Tryz.ntmps171 rfl Owns.nil<|aG fun kh1=>f_S (cT rfl rfl fun b2=>?_)
 refine aB 1 rfl<|aD kh1 ?_
 refine qZ (α:=Nat×Nat×Nat×Option Addr×Nat×Seg) [1,2] (fun ⟨b17,J,F,O,X,Y⟩=>[(5,.pointer (some ⟨b17,0,none⟩))]) (fun ⟨b17,J,F,O,X,Y⟩=>[[(b17,blk [.slice O L.length X,.slice (some ⟨J,0,none⟩) n n,.slice (some ⟨F,0,none⟩) M M] 234)],Y,[(J,blk (List.replicate n (.slice none 0 0)) 25)],[(F,blk (bF (szs M [])) 3)],[(b2,blk [.int .i64 (n:Int),.slice A l.length cap] 24)]]) (fun ⟨b17,J,F,O,X,Y⟩=>Own 3 1 (.slice O L.length X) L.length (bF L) Y) ?_ ?_
 ·
  intro K2 ab;refine c7 [[(b2,blk [.int .i64 (n:Int),.slice A l.length cap] 24)]] rfl<|f_T 0 rfl (aU rfl)<|f_T 2 rfl (aT eT rfl)<|f_T 3 rfl (aH Tryz.isAgg3 rfl (rdA rfl))<|f_T 5 rfl (aU rfl)<|gH 1 4 rfl rfl aW rfl rfl rfl rfl rfl rfl ?_ ?_
  ·
   refine (aV Tryz.call56 rfl (fun w_ U=>CloneI_spec _ L.length (bF L) cb w_ (hL.up0 U) (fun e=>by cases e) (by rw [a7];omega) (ints_oneC _) aA) ?_);rintro v8 _ ⟨Y,rfl,o8⟩;obtain ⟨O,X,rfl,_⟩:=o8.val
   dsimp only [aK,aJ];refine ⟨aC,?_⟩;refine gH 4 6 rfl rfl aW rfl rfl rfl rfl rfl rfl ?_ ?_
   ·
    refine (eZ el32 rfl rfl n rfl aA aA (List.replicate n (.slice none 0 0)) (rep_flatL n _) fun J=>⟨aC,?_⟩);refine f_O 6 rfl (aV Tryz.call87 rfl (fun w_ U=>nV _ L cb w_ (hL.up0 U) h0 aA) ?_);rintro _ _ ⟨rfl,rfl⟩;dsimp only [aK,aJ];refine ⟨aC,?_⟩;refine f_T 7 rfl (lA rfl rfl _ (show IntKind.i64.wrap (e9 L+1)=(M:Int) from by rw [d7 aA];omega)) ?_;refine f_O 8 rfl (eZ eL rfl rfl M rfl aA aA (bF (szs M [])) (by rw [szs_nil];simp [bF,List.flatten_replicate_singleton]) fun F=>⟨aC,?_⟩);refine f_T 9 rfl (dL (cs:=[.slice O L.length X,.slice (some ⟨J,0,none⟩) n n,.slice (some ⟨F,0,none⟩) M M]) st234 rfl rfl)<|f_O 10 rfl (cT rfl rfl fun b17=>⟨aC,?_⟩)
    refine f_O 11 rfl ((bI rfl).does ⟨aC,?_⟩);refine cU aW<|cS (ab _ _ (b17,J,F,O,X,Y) o8 ?_ ?_ ?_)
    · exact aF
    · exact aF
    · exact aC
   ·
    refine (aV Tryz.call87 rfl (fun w_ U=>nV _ L cb w_ (hL.up0 U) h0 aA) ?_);rintro _ _ ⟨rfl,rfl⟩;dsimp only [aK,aJ];refine ⟨aC,?_⟩;refine f_T 7 rfl (lA rfl rfl _ (show IntKind.i64.wrap (e9 L+1)=(M:Int) from by rw [d7 aA];omega)) ?_;refine gH 4 8 rfl rfl aW rfl rfl rfl rfl rfl rfl ?_ ?_
    ·
     refine (eZ el32 rfl rfl n rfl aA aA (List.replicate n (.slice none 0 0)) (rep_flatL n _) fun J=>⟨aC,?_⟩);refine f_O 8 rfl (eZ eL rfl rfl M rfl aA aA (bF (szs M [])) (by rw [szs_nil];simp [bF,List.flatten_replicate_singleton]) fun F=>⟨aC,?_⟩);refine f_T 9 rfl (dL (cs:=[.slice O L.length X,.slice (some ⟨J,0,none⟩) n n,.slice (some ⟨F,0,none⟩) M M]) st234 rfl rfl)<|f_O 10 rfl (cT rfl rfl fun b17=>⟨aC,?_⟩)
     refine f_O 11 rfl ((bI rfl).does ⟨aC,?_⟩);refine cU aW<|cS (ab _ _ (b17,J,F,O,X,Y) o8 ?_ ?_ ?_)
     · exact aF
     · exact aF
     · exact aC
    ·
     refine (eZ eL rfl rfl M rfl aA aA (bF (szs M [])) (by rw [szs_nil];simp [bF,List.flatten_replicate_singleton]) fun F=>⟨aC,?_⟩);refine f_O 4 rfl (eZ el32 rfl rfl n rfl aA aA (List.replicate n (.slice none 0 0)) (rep_flatL n _) fun J=>⟨aC,?_⟩);refine f_T 9 rfl (dL (cs:=[.slice O L.length X,.slice (some ⟨J,0,none⟩) n n,.slice (some ⟨F,0,none⟩) M M]) st234 rfl rfl)<|f_O 10 rfl (cT rfl rfl fun b17=>⟨aC,?_⟩)
     refine f_O 11 rfl ((bI rfl).does ⟨aC,?_⟩);refine cU aW<|cS (ab _ _ (b17,J,F,O,X,Y) o8 ?_ ?_ ?_)
     · exact aF
     · exact aF
     · exact aC
  ·
   refine (eZ el32 rfl rfl n rfl aA aA (List.replicate n (.slice none 0 0)) (rep_flatL n _) fun J=>⟨aC,?_⟩);refine f_O 1 rfl (aV Tryz.call56 rfl (fun w_ U=>CloneI_spec _ L.length (bF L) cb w_ (hL.up0 U) (fun e=>by cases e) (by rw [a7];omega) (ints_oneC _) aA) ?_);rintro v8 _ ⟨Y,rfl,o8⟩;obtain ⟨O,X,rfl,_⟩:=o8.val
   dsimp only [aK,aJ];refine ⟨aC,?_⟩;refine f_O 6 rfl (aV Tryz.call87 rfl (fun w_ U=>nV _ L cb w_ (hL.up0 U) h0 aA) ?_);rintro _ _ ⟨rfl,rfl⟩;dsimp only [aK,aJ];refine ⟨aC,?_⟩;refine f_T 7 rfl (lA rfl rfl _ (show IntKind.i64.wrap (e9 L+1)=(M:Int) from by rw [d7 aA];omega)) ?_;refine f_O 8 rfl (eZ eL rfl rfl M rfl aA aA (bF (szs M [])) (by rw [szs_nil];simp [bF,List.flatten_replicate_singleton]) fun F=>⟨aC,?_⟩);refine f_T 9 rfl (dL (cs:=[.slice O L.length X,.slice (some ⟨J,0,none⟩) n n,.slice (some ⟨F,0,none⟩) M M]) st234 rfl rfl)<|f_O 10 rfl (cT rfl rfl fun b17=>⟨aC,?_⟩)
   refine f_O 11 rfl ((bI rfl).does ⟨aC,?_⟩);refine cU aW<|cS (ab _ _ (b17,J,F,O,X,Y) o8 ?_ ?_ ?_)
   · exact aF
   · exact aF
   · exact aC
 ·
  rintro ⟨b17,J,F,O,X,Y⟩ o8;refine aS fun kh3=>aG fun ao=>cL eT rfl<|cX Tryz.isAgg3 rfl (rdA rfl)<|aB 1 rfl<|aD ao<|aR ?_
  refine dA (α:=Nat×List Value×List Seg) [1,2,5,19] (fun ⟨k,vs,ms⟩=>[(20,.int .i64 (k:Int))]) (fun ⟨k,vs,ms⟩=>[[(b17,blk [.slice O L.length X,.slice (some ⟨J,0,none⟩) n n,.slice (some ⟨F,0,none⟩) M M] 234)],Y,[(J,blk vs 25)],ms.flatten,[(F,blk (bF (szs M (L.take k))) 3)],[(b2,blk [.int .i64 (n:Int),.slice A l.length cap] 24)]]) (fun ⟨k,vs,ms⟩=>k≤n∧RowsC 3 n (fun i=>if i<k then dS (i:Int) l else []) vs ms∧∀ i,k≤i→i<n→ms[i]? =some []) (fun ⟨k,vs,ms⟩=>n - k) (0,List.replicate n (.slice none 0 0),List.replicate n []) ?_ ?_ ?_ ?_
  · exact aF
  · dsimp only
    rw [show (List.replicate n ([]:Seg)).flatten=[] from by simp];exact aC
  · exact ⟨aA,RowsC.start _ n _,fun i _ hi=>by simp [hi]⟩
  ·
   rintro ⟨k,vs,ms⟩ ⟨aw,ae,ac⟩;refine fF (e:=[(20,_),(1,_),(2,_),(5,_),(19,_)]) aF ?_;refine aG fun kh5=>aB 1 rfl<|aD kh5<|aS fun kh6=>aX rfl (fun aj=>?_) (fun aj=>?_)
   ·
    have hk:k<n:=aA
    have aa:k<L.length:=aA
    have hz:jX (n:Int) l (k:Int)=0:=by unfold jX;rw [if_neg (by rw [hg];simp),if_neg aA]
    obtain ⟨y,hy⟩:∃ y:Nat,L[k]=(y:Int):=⟨L[k].toNat,by have:=ah _ (List.getElem_mem aa);omega⟩
    have ag:y<M:=by have:=iI (List.getElem_mem aa);omega
    have ak:=cnt_le (L.take k) y
    rw [List.length_take] at ak;refine bV kh6<|aS fun kh7=>aR<|aG fun kh8=>aB 2 rfl<|aD kh8<|aS fun kh9=>c7 [[(b17,blk [.slice O L.length X,.slice (some ⟨J,0,none⟩) n n,.slice (some ⟨F,0,none⟩) M M] 234)],[(b2,blk [.int .i64 (n:Int),.slice A l.length cap] 24)]] rfl<|f_T 0 rfl (aU rfl)<|f_T 1 rfl (dH rfl) ?_
    refine f_T 2 rfl (aT fa234_1 rfl)<|f_T 3 rfl (aH Tryz.isAgg32 rfl (rdA rfl))<|f_T 4 rfl (aU rfl)<|f_T 5 rfl (aO (vs:=[.int .i64 (n:Int),.slice A l.length cap]) Tryz.isAgg24 Tryz.sizeOf24 rfl rfl ⟨(rdA rfl),(rdA rfl),trivial⟩)<|f_T 6 rfl (aU rfl) ?_
    refine f_O 7 rfl (aV Tryz.call189 rfl (fun w_ U=>Neighbours_spec (n:Int) A l cap (k:Int) w_ (hr.up0 U) aA hN hok) ?_);rintro _ _ ⟨Ar,W,cr,ad,rfl,rfl,ai,hW⟩;rw [if_pos hz] at hW;subst hW;dsimp only [aK,aJ];refine ⟨aC,?_⟩;refine f_T 8 rfl (aU rfl)<|f_T 9 rfl (eU rfl rfl)<|f_T 10 rfl (eU rfl rfl)<|f_T 11 rfl (aL gL rfl rfl (k))<|fZ 12 rfl (bU Tryz.sizeOf25 rfl rfl rfl rfl (by rw [ae.lv];omega) (vs.set k (.slice Ar (dS (k:Int) l).length (dS (k:Int) l).length)) rfl ⟨aC,?_⟩)
    refine cU aW<|bO kh9<|c7 [[(b17,blk [.slice O L.length X,.slice (some ⟨J,0,none⟩) n n,.slice (some ⟨F,0,none⟩) M M] 234)]] rfl<|f_T 0 rfl (aU rfl)<|f_T 1 rfl (dH rfl)<|f_T 2 rfl (aT fa234_2 rfl)<|f_T 3 rfl (aH Tryz.isAgg25 rfl (rdA rfl))<|f_T 4 rfl (aU rfl)<|f_T 5 rfl (aU rfl)<|f_T 6 rfl (aL bX rfl rfl (ob+k)) ?_
    refine f_T 7 rfl (aH Tryz.isAgg3 rfl (show Rd _ _ _ _ _ (.int .i64 (y:Int)) by rw [← hy];exact d3 (enc:=(.int .i64 ·)) am an aa)) ?_;refine f_T 8 rfl (aL bX rfl rfl (y))<|f_O 9 rfl ((aH Tryz.isAgg3 rfl (rdA (v:= .int .i64 (cnt (L.take k) y:Int)) (by rw [eG (by rw [gO];exact ag),kP ag]))).does ⟨aC,?_⟩)
    refine f_T 10 rfl (a8 rfl rfl)<|f_T 11 rfl (aL bX rfl rfl (y))<|fZ 12 rfl (bU Tryz.sizeOf3 rfl rfl rfl rfl (by rw [a7,gO];omega) (bF (szs M (L.take (k+1)))) (by rw [szs_next aa hy ag];simp [bF]) ⟨aC,?_⟩)
    refine cU aW<|dF<|bO kh7<|aI<|f_Q (a8 rfl rfl)<|aB 1 rfl<|aZ<|f9 (Sub.joinF (m:=ad) (G' :=ms.flatten) (flat_put (ac k (Nat.le_refl _) hk) ad)) ?_
    refine cS (a6 (k+1,vs.set k (.slice Ar (dS (k:Int) l).length (dS (k:Int) l).length),ms.set k ad) (by first|omega|(dsimp only;omega)|(simp;omega)) ⟨aA,ae.next (r:=fun i=>dS (i:Int) l) hk ai,fun i h1 h2=>by rw [List.getElem?_set_ne aA];exact ac i aA h2⟩ ?_ ?_ ?_)
    · exact aF
    · exact aF
    · exact aC
   ·
    refine cN<|cO<|cO<|eC<|bO kh3<|aG fun kh10=>aB 2 rfl<|aD kh10<|aY ?_
    obtain rfl:k=n:=aA
    dsimp only;rw [List.take_of_length_le aA];exact bJ [(pM b17 O X L Y J k vs ms.flatten F (szs M L)).flatten] Tryz.results171 rfl (Sub.flat (by unfold pM;rw [gO];repeat (first|exact aP|refine aM ?_))) ⟨b17,_,rfl,rfl,by rw [dZ,show (e9 L+1).toNat=M by omega];exact ⟨O,X,Y,J,vs,ms,F,List.Perm.refl _,o8,ae.all⟩⟩
theorem roMem {S:Nat→Prop} {w0 w:World} {segs:List Seg} {b:Nat} {cs sp:List Value} {T:TypeId} (hm:(b,blk (cs++sp) T)∈segs.flatten) (hp:Hp S w0 segs.flatten w):Ro (Fr w []) w (some ⟨b,0,none⟩) cs:=fun _=>by
 have hb:=hp.own b _ hm
 refine ⟨b,0,rfl,⟨hp.key_lt hm,aN⟩,fun j v hj=>?_⟩;have:(cs++sp)[j]? =some v:=eF hj
 simp [World.cell?,hb,this]
theorem roOwnM {S:Nat→Prop} {w0 w:World} {segs:List Seg} {E len F c:Nat} {A:Option Addr} {cs:List Value} {m:Seg} (ho:Own E 1 (.slice A F c) len cs m) (hm:∀ x∈m,x∈segs.flatten) (hp:Hp S w0 segs.flatten w):Ro (Fr w []) w A cs:=by
 intro hne
 have hl:0<len:=by
  rcases Nat.eq_zero_or_pos len with h|h
  ·subst h;have:=ho.1;simp at this;exact absurd this hne
  ·exact h
 obtain ⟨b,sp,rfl,rfl⟩:=ho.at_ hl
 exact roMem (sp:=sp) (T:=E) (hm _ aN) hp hne
theorem LRep.sees {U:Nat→Prop} {w0 w:World} {segs out:List Seg} {n:Nat} {rows:Nat→List Int} {L S:List Int} {bs:Nat} {m:Seg} (h:LRep n rows L S bs m) (hp:Hp U w0 segs.flatten w) [pk:Pick segs m out]:∃ Al cl bo bz vs,LSee n rows L S bs w Al cl bo bz vs:=by
 obtain ⟨Al,cl,ml,bo,vs,ms,bz,hm,O,J⟩:=h
 have F:∀ x∈(pM bs Al cl L ml bo n vs ms.flatten bz S).flatten,x∈segs.flatten:=fun x hx=>pk.perm.symm.subset (List.mem_append_left _ (hm.symm.subset hx))
 refine ⟨Al,cl,bo,bz,vs,?_,?_,?_,J.lv,fun v hv=>?_,?_⟩
 ·exact roMem (sp:=[]) (T:=234) (F _ aN) hp
 ·exact roOwnM O (fun x hx=>F x (by simp [hx])) hp
 ·exact roMem (sp:=[]) (T:=25) (F _ aN) hp
 ·obtain ⟨A,c,h1,h2⟩:=J.own v hv
  refine ⟨A,_,h1,roOwnM h2 (fun x hx=>F x ?_) hp⟩;have:x∈ms.flatten:=List.mem_flatten.2 ⟨_,List.getElem_mem _,hx⟩
  simp [this]
 ·exact roMem (sp:=[]) (T:=3) (F _ aN) hp
theorem qA {n:Nat} {L:List Int} (F:eH (n:Int) L=true) (hn:1≤n):L.length=n∧(∀ x∈L,0≤x∧x<((dZ L).length:Int)∧x<(n:Int))∧(dZ L).length≤n∧1≤(dZ L).length:=by
 unfold eH at F
 simp only [Bool.and_eq_true,decide_eq_true_eq] at F;have O:L.length=n:=aA
 have X:0<L.length:=aA
 have J:=rgo_pos F.1
 have U:=rgo_lt F.1
 have Y:e9 L≤(n:Int) - 1:=mU X fun x hx=>by have:=U x hx;omega
 have Z:0≤e9 L:=Int.le_trans (J L[0] (List.getElem_mem X)) (iI (List.getElem_mem X))
 have e:(dZ L).length=(e9 L+1).toNat:=gO _ _
 refine ⟨O,fun x hx=>?_,aA,aA⟩;have:=J x hx
 have:=iI hx
 omega
theorem nbrs_rng {n:Nat} {l:List Arc} (hg:(cG (n:Int) l).2=0) (v:Int):(dS v l).length≤8192∧∀ u∈dS v l,0≤u∧u<(n:Int):=by
 obtain ⟨_,_,hlen,J⟩:=bS hg
 refine ⟨?_,fun u O=>?_⟩
 ·unfold dS
  refine Nat.le_trans (kI _) ?_;rw [e6];exact Nat.le_trans (qM v l) hlen
 ·obtain ⟨x,hx,F⟩:=nbrs_mem.1 O
  have:=raw_good J x hx
  unfold nbr at F
  split at F
  ·simp at F
  ·split at F
   ·simp at F;omega
   ·split at F
    ·simp at F;omega
    ·simp at F
theorem szs_rng {M:Nat} {L:List Int} (h:L.length≤1024):∀ x∈szs M L,0≤x∧x≤1024:=fun x hx=>by
 obtain ⟨j,_,rfl⟩:=List.mem_map.1 hx
 have:=cnt_le L j
 omega
theorem lok_begin {n:Nat} {l:List Arc} {L:List Int} (hg:(cG (n:Int) l).2=0) (F:eH (n:Int) L=true):LOk n (fun v=>dS (v:Int) l) L (dZ L):=by
 obtain ⟨J,O,hlen,U⟩:=bS hg
 obtain ⟨h1,h2,h3,_⟩:=qA F aA
 exact ⟨aA,h1,fun x hx=>⟨(h2 x hx).1,(h2 x hx).2.1⟩,aA,fun v _=>Nat.le_trans (nbrs_rng hg v).1 (by decide),fun v _=>(nbrs_rng hg v).2,szs_rng aA⟩
theorem lok_do {n:Nat} {rows:Nat→List Int} {L S:List Int} (h:LOk n rows L S) (v:Nat) (j:Int):LOk n rows (tdy (L.set v j)) (szs (sns (L.set v j)).length (tdy (L.set v j))):=by
 have hl:(L.set v j).length=n:=by rw [List.length_set];exact h.len
 have hs:=sns_len (L:=L.set v j) (k:=(L.set v j).length) (Nat.le_refl _)
 rw [List.take_length] at hs;have:=h.n1
 exact ⟨h.n1,by rw [gI];exact hl,fun x hx=>by rw [gO];exact tdy_rng x hx,by rw [gO];omega,h.rlen,h.rok,szs_rng (by rw [gI];omega)⟩
theorem lcount_ok {N:Int} {l:List Arc} {L:List Int} (h:(fN N l L).2=0):(cG N l).2=0∧eH N L=true:=by
 unfold fN at h
 by_cases h1:(cG N l).2≠0
 ·rw [if_pos h1] at h;exact absurd h h1
 ·by_cases h2:eH N L=false
  ·rw [if_neg h1,if_pos h2] at h;simp at h
  ·exact ⟨aA,by simpa using h2⟩
def h8 (N:Int) (l:List Arc) (L:List Int) (bd:Int):Int:=
 if (fN N l L).2≠0 then (fN N l L).2 else if bd<1∨1024<bd then 1 else if bd<e9 (dZ L) then 90 else 0
theorem ready_spec (N:Int) (A B:Option Addr) (l:List Arc) (cap:Nat) (L:List Int) (cb:Nat) (bd:Int) (w:World) (hr:Ro (Fr w []) w A (l.flatMap bZ)) (hl:l.length≤9223372036854775807) (hN:I64 N) (hok:∀ x∈l,eK x) (hL:Ro (Fr w []) w B (bF L)) (hm:L.length≤9223372036854775807):
    Meets Tryz.prog 139 [.agg #[.int .i64 N,.slice A l.length cap],.slice B L.length cb,.int .i64 bd] w []
      (fun u own' =>if h8 N l L bd=0 then ∃ bs m,u= .tuple #[.pointer (some ⟨bs,0,none⟩),.int .i64 0]∧own' =[m]∧LRep N.toNat (fun v=>dS (v:Int) l) L (dZ L) bs m else u= .tuple #[.pointer none,.int .i64 (h8 N l L bd)]∧own' =[]):=by
 refine bE Tryz.func139 rfl Tryz.ntmps139 rfl Owns.nil<|aG fun kh1=>f_S (cT rfl rfl fun b3=>?_)
 refine aB 2 rfl<|aD kh1<|aS fun kh2=>aG fun kh3=>f_Q (aO (vs:=[_,_]) Tryz.isAgg24 Tryz.sizeOf24 rfl rfl ⟨(rdA rfl),(rdA rfl),trivial⟩)<|aB 1 rfl ?_
 refine f_S (aV Tryz.call115 rfl (fun U F=>Count_spec N A B l cap L cb U (hr.up0 F) hl hN hok (hL.up0 F) hm) ?_);rintro _ _ ⟨rfl,rfl⟩;dsimp only [aK,aJ];refine aB 5 rfl<|aD kh3<|aG fun kh4=>aB 2 rfl<|aD kh4<|aX rfl (fun c18=>?_) (fun c18=>?_)
 ·refine aG fun ab=>aB 3 rfl<|aD ab<|aY<|cV ?_
  have e:h8 N l L bd=(fN N l L).2:=if_pos c18
  exact cZ [] Tryz.results139 rfl rfl aP (by rw [if_neg (by rw [e];exact c18),e];exact ⟨rfl,rfl⟩)
 ·have ac:(fN N l L).2=0:=by simpa using c18
  obtain ⟨hg,J⟩:=lcount_ok ac
  obtain ⟨n,rfl⟩:∃ n:Nat,N=(n:Int):=⟨N.toNat,by have:=bS hg;omega⟩
  have hO:=lok_begin hg J
  have X:=hO.n1
  obtain ⟨ae,_,ag,ad⟩:=qA J X.1
  refine bV kh2<|aS fun kh6=>aG fun kh7=>aB 3 rfl<|d8 22 rfl (fun g22=>?_) (fun g22=>?_)
  ·refine aB 3 rfl<|aD kh7<|fI rfl<|aG fun kh8=>aB 2 rfl<|aD kh8<|aY<|cV ?_
   have e:h8 (n:Int) l L bd=1:=by rw [h8,if_neg c18,if_pos (.inl g22)]
   exact cZ [] Tryz.results139 rfl rfl aP (by rw [if_neg (by rw [e];decide),e];exact ⟨rfl,rfl⟩)
  ·refine aB 3 rfl<|aD kh7<|aX rfl (fun c25=>?_) (fun c25=>?_)
   ·refine aG fun aa=>aB 2 rfl<|aD aa<|aY<|cV ?_
    have e:h8 (n:Int) l L bd=1:=by rw [h8,if_neg c18,if_pos (.inr aA)]
    exact cZ [] Tryz.results139 rfl rfl aP (by rw [if_neg (by rw [e];decide),e];exact ⟨rfl,rfl⟩)
   ·refine bV kh6<|aG fun kh10=>f_Q (aO (vs:=[_,_]) Tryz.isAgg24 Tryz.sizeOf24 rfl rfl ⟨(rdA rfl),(rdA rfl),trivial⟩)<|aB 1 rfl ?_
    refine f_S (aV Tryz.call171 rfl (fun U F=>lbegin_spec n A B l cap L cb U (hr.up0 F) hok hg (hL.up0 F) J) ?_);rintro _ _ ⟨bs,sm,rfl,rfl,hS⟩;dsimp only [aK,aJ];refine aB 1 rfl<|aD kh10<|aS fun kh11=>aS fun kh12=>?_
    have ah:=hS
    obtain ⟨Al,cl,ml,bo,vs,ms,bz,hsm,Y,Z⟩:=hS
    refine eP (Sub.opened hsm) ?_
    try dsimp only [pM,List.cons_append,List.nil_append]
    refine aI<|aB 1 rfl<|f_Q (dH rfl)<|cL fa234_2 rfl<|cX Tryz.isAgg25 rfl (rdA rfl) ?_
    refine f_S (aV Tryz.call87 rfl (fun U F=>nV _ (dZ L) _ U (roMem (sp:=[]) (T:=3) (b:=bz) aN F) aA aA) ?_);rintro _ _ ⟨rfl,rfl⟩;dsimp only [aK,aJ];refine aB 2 rfl<|aD kh12<|aX rfl (fun c35=>?_) (fun c35=>?_)
    ·refine aG fun O=>aB 2 rfl<|aD O<|aY<|cV ?_
     have e:h8 (n:Int) l L bd=90:=by rw [h8,if_neg c18,if_neg aA,if_pos aA]
     exact cZ [] Tryz.results139 rfl rfl aP (by rw [if_neg (by rw [e];decide),e];exact ⟨rfl,rfl⟩)
    ·refine bV kh11<|aG fun kh14=>aB 3 rfl<|aD kh14<|aY ?_
     have e:h8 (n:Int) l L bd=0:=by rw [h8,if_neg c18,if_neg aA,if_neg aA]
     exact cZ [(pM bs Al cl L ml bo n vs ms.flatten bz (dZ L)).flatten] Tryz.results139 rfl rfl (Sub.flat (by repeat (first|exact aP|refine aM ?_|refine cE rfl ?_))) (by rw [if_pos e];exact ⟨bs,_,rfl,rfl,by rw [Int.toNat_natCast];exact ⟨Al,cl,ml,bo,vs,ms,bz,List.Perm.refl _,Y,Z⟩⟩)
theorem Sub.opn {m:Seg} {segs F out:List Seg} [p:Pick segs m F] (h:m.Perm out.flatten):Fly.Sub segs out:=by
 refine ⟨F.flatten,p.perm.trans (h.append_right _)⟩
theorem mvRow_rng {n:Nat} {L S R:List Int} {bd:Int} {v:Nat} {b:Mv} (hv:v<n) (hb:b=(0,0,0)∨∃ (y j:Nat) (g:Int),b=((y:Int),(j:Int),g)∧y<n∧j<S.length):∀ j,j≤S.length→jN L S R bd v j b=(0,0,0)∨∃ (y k:Nat) (g:Int),jN L S R bd v j b=((y:Int),(k:Int),g)∧y<n∧k<S.length
 |0,_=>hb
 |j+1,h=>by
  rw [kG]
  unfold mvUp
  split
  ·exact .inr ⟨v,j,_,rfl,hv,aA⟩
  ·exact mvRow_rng hv hb j aA
theorem mvTo_rng {n:Nat} {L S:List Int} {rows:Nat→List Int} {bd:Int}:∀ k,k≤n→j3 L S rows bd k=(0,0,0)∨∃ (y j:Nat) (g:Int),j3 L S rows bd k=((y:Int),(j:Int),g)∧y<n∧j<S.length
 |0,_=> .inl rfl
 |k+1,h=>by
  rw [mvTo_next];exact mvRow_rng aA (mvTo_rng k aA) _ (Nat.le_refl _)
abbrev LSt:=List Int×List Int
def mvOf (n:Nat) (rows:Nat→List Int) (bd:Int) (s:LSt):Mv:=j3 s.1 s.2 rows bd n
def mvDo (L:List Int) (v:Nat) (j:Int):LSt:=(tdy (L.set v j),szs (sns (L.set v j)).length (tdy (L.set v j)))
def jH (n:Nat) (rows:Nat→List Int) (bd:Int):Nat→LSt→LSt×Nat
 |0,s=>(s,0)
 |k+1,s=>if 0<(mvOf n rows bd s).2.2 then ((jH n rows bd k (mvDo s.1 (mvOf n rows bd s).1.toNat (mvOf n rows bd s).2.1)).1,(jH n rows bd k (mvDo s.1 (mvOf n rows bd s).1.toNat (mvOf n rows bd s).2.1)).2+1) else (s,0)
def impR (N:Int) (l:List Arc) (L:List Int) (bd most:Int):List Int×Int×Int:=
 if h8 N l L bd≠0 then ([],0,h8 N l L bd) else if most<0∨16384<most then ([],0,1) else
  ((jH N.toNat (fun v=>dS (v:Int) l) bd most.toNat (L,dZ L)).1.1,((jH N.toNat (fun v=>dS (v:Int) l) bd most.toNat (L,dZ L)).2:Int),0)
theorem Improve_spec (N:Int) (A B:Option Addr) (l:List Arc) (cap:Nat) (L:List Int) (cb:Nat) (bd most:Int) (w:World) (hr:Ro (Fr w []) w A (l.flatMap bZ)) (hl:l.length≤9223372036854775807) (hN:I64 N) (hok:∀ x∈l,eK x) (hL:Ro (Fr w []) w B (bF L)) (hm:L.length≤9223372036854775807):
    Meets Tryz.prog 85 [.agg #[.int .i64 N,.slice A l.length cap],.slice B L.length cb,.int .i64 bd,.int .i64 most] w []
      (fun u own' =>∃ s ms,u= .tuple #[s,.int .i64 (impR N l L bd most).2.1,.int .i64 (impR N l L bd most).2.2]∧own' =[ms]∧Own 3 1 s (impR N l L bd most).1.length (bF (impR N l L bd most).1) ms):=by
 have aj:h8 N l L bd=0→(fN N l L).2=0:=fun h=>by
   unfold h8 at h
   by_cases h1:(fN N l L).2≠0
   ·rw [if_pos h1] at h;exact absurd h h1
   ·omega
 refine bE Tryz.func85 rfl Tryz.ntmps85 rfl Owns.nil<|aG fun kh1=>f_S (cT rfl rfl fun b4=>?_)
 refine aB 3 rfl<|aD kh1<|aG fun kh2=>f_Q (aO (vs:=[_,_]) Tryz.isAgg24 Tryz.sizeOf24 rfl rfl ⟨(rdA rfl),(rdA rfl),trivial⟩)<|aB 2 rfl ?_
 refine f_S (aV Tryz.call139 rfl (fun w_ hp_=>ready_spec N A B l cap L cb bd w_ (hr.up0 hp_) hl hN hok (hL.up0 hp_) hm) ?_);intro aq U hv
 obtain ⟨ad,Y,rfl,hq⟩:∃ ad Y,aq= .tuple #[ad,.int .i64 Y]∧((Y=0∧h8 N l L bd=0∧∃ bs m,ad= .pointer (some ⟨bs,0,none⟩)∧U=[m]∧LRep N.toNat (fun v=>dS (v:Int) l) L (dZ L) bs m)∨(Y≠0∧Y=h8 N l L bd∧U=[])):=by
   by_cases h0:h8 N l L bd=0
   ·rw [if_pos h0] at hv;obtain ⟨bs,m,rfl,h1,h2⟩:=hv;exact ⟨_,_,rfl,.inl ⟨rfl,h0,bs,m,rfl,h1,h2⟩⟩
   ·rw [if_neg h0] at hv;obtain ⟨rfl,h1⟩:=hv;exact ⟨_,_,rfl,.inr ⟨h0,rfl,h1⟩⟩
 rw [show U=[]++U from rfl];dsimp only [aK,aJ];refine aB 5 rfl<|aD kh2<|aS fun kh3=>aG fun kh4=>aB 2 rfl<|aD kh4<|aX rfl (fun c22=>?_) (fun c22=>?_)
 ·obtain ⟨h0,he,rfl⟩:=hq.resolve_left (fun h=>c22 h.1)
  dsimp only [List.nil_append];refine aG fun an=>aB 4 rfl<|aD an<|aY<|cV ?_
  have e:impR N l L bd most=([],0,h8 N l L bd):=if_pos (by rw [← he];exact h0)
  exact kH [[]] Tryz.results85 rfl rfl rfl Sub.empty ⟨_,_,by rw [e,← he],rfl,by rw [e];exact Own.nil _ _⟩
 ·obtain ⟨rfl,h0,bs,m,rfl,rfl,hS⟩:=hq.resolve_right (fun h=>c22 h.1)
  dsimp only [aK,aJ];obtain ⟨hg,ar⟩:=lcount_ok (aj h0)
  obtain ⟨n,rfl⟩:∃ n:Nat,N=(n:Int):=⟨N.toNat,by have:=bS hg;omega⟩
  rw [Int.toNat_natCast] at hS;have hO:=lok_begin hg ar
  have hR:∀ q,impR (n:Int) l L bd q=if q<0∨16384<q then ([],0,1) else ((jH n (fun v=>dS (v:Int) l) bd q.toNat (L,dZ L)).1.1,((jH n (fun v=>dS (v:Int) l) bd q.toNat (L,dZ L)).2:Int),0):=fun q=>by rw [impR,if_neg (by rw [h0];simp),Int.toNat_natCast]
  refine bV kh3<|aS fun kh6=>aG fun kh7=>aB 3 rfl<|d8 26 rfl (fun g26=>?_) (fun g26=>?_)
  ·refine aB 3 rfl<|aD kh7<|fI rfl<|aG fun kh8=>aB 3 rfl<|aD kh8<|aY<|cV ?_
   have e:=hR most
   rw [if_pos (.inl g26)] at e;exact kH [[]] Tryz.results85 rfl rfl rfl Sub.empty ⟨_,_,by rw [e],rfl,by rw [e];exact Own.nil _ _⟩
  ·refine aB 3 rfl<|aD kh7<|aX rfl (fun c29=>?_) (fun c29=>?_)
   ·refine aG fun am=>aB 3 rfl<|aD am<|aY<|cV ?_
    have e:=hR most
    rw [if_pos (.inr aA)] at e;exact kH [[]] Tryz.results85 rfl rfl rfl Sub.empty ⟨_,_,by rw [e],rfl,by rw [e];exact Own.nil _ _⟩
   ·refine bV kh6<|aS fun kh10=>aR ?_
    refine dA (α:=List Int×List Int×Nat×Seg) [2,3,11] (fun ⟨F,J,mv,m1⟩=>[(9,.int .i64 (mv:Int))]) (fun ⟨F,J,mv,m1⟩=>[m1]) (fun ⟨F,J,mv,m1⟩=>(mv:Int)≤most∧LRep n (fun v=>dS (v:Int) l) F J bs m1∧LOk n (fun v=>dS (v:Int) l) F J∧jH n (fun v=>dS (v:Int) l) bd most.toNat (L,dZ L)=((jH n (fun v=>dS (v:Int) l) bd (most.toNat - mv) (F,J)).1,mv+(jH n (fun v=>dS (v:Int) l) bd (most.toNat - mv) (F,J)).2)) (fun ⟨F,J,mv,m1⟩=>most.toNat - mv) (L,dZ L,0,m) ?_ ?_ ?_ ?_
    ·exact aF
    ·exact aC
    ·exact ⟨aA,hS,hO,by rw [Nat.sub_zero,Nat.zero_add]⟩
    ·rintro ⟨F,J,mv,m1⟩ ⟨au,aa,ae,X⟩;refine aS fun ai=>aG fun kh12=>aB 3 rfl<|aD kh12<|aX rfl (fun c32=>?_) (fun c32=>?_)
     ·refine bV ai<|aR<|aG fun kh13=>aB 2 rfl ?_
      refine f_S (aV Tryz.call140 rfl (fun w_ hp_=>(by obtain ⟨Al,cl,bo,bz,vs,hs⟩:=aa.sees hp_;exact lnext_spec n _ F J bs Al cl bo bz vs bd w_ hs ae)) ?_);rintro _ _ ⟨rfl,rfl⟩;dsimp only [aK,aJ];refine aB 3 rfl<|f_S (cQ Tryz.zeroValue229 rfl fun b12=>?_)
      refine f_Z (bP Tryz.sizeOf229 rfl rfl rfl rfl cF (mvCs (j3 F J (fun v=>dS (v:Int) l) bd n)) rfl ?_);refine aB 1 rfl<|aD kh13<|aS fun kh14=>aG fun kh15=>aB 2 rfl<|aD kh15<|eO rfl (fun c40=>?_) (fun c40=>?_)
      ·have ah:¬ 0<(j3 F J (fun v=>dS (v:Int) l) bd n).2.2:=by simpa using c40
       have Z:jH n (fun v=>dS (v:Int) l) bd (most.toNat - mv) (F,J)=((F,J),0):=by
         obtain ⟨k,hk⟩:∃ k,most.toNat - mv=k+1:=⟨most.toNat - mv - 1,aA⟩
         have e:mvOf n (fun v=>dS (v:Int) l) bd (F,J)=j3 F J (fun v=>dS (v:Int) l) bd n:=rfl
         rw [hk,jH,e,if_neg ah]
       rw [Z] at X;obtain ⟨Al,cl,ml,bo,vs,ms,bz,hsm,ab,al⟩:=aa
       refine cN<|cO<|f_bo rfl<|cO<|eC<|bO kh10<|aS fun kh16=>eP (Sub.opn (out:=pM bs Al cl F ml bo n vs ms.flatten bz J) hsm) ?_
       unfold pM
       refine aI<|aB 1 rfl<|f_Q (dH rfl)<|cL mX rfl<|cX Tryz.isAgg25 rfl (rdA rfl)<|aB 4 rfl<|aD kh16<|aY ?_
       have e:=hR most
       rw [if_neg aA,X] at e;exact kH [ml] Tryz.results85 rfl rfl rfl (by repeat (first|exact aP|refine aM ?_|refine cE rfl ?_)) ⟨.slice Al F.length cl,ml,by rw [e];simp,rfl,by rw [e];exact ab⟩
      ·have O:0<(j3 F J (fun v=>dS (v:Int) l) bd n).2.2:=by simpa using c40
       obtain ⟨y,j,g,ag,ao,ak⟩:=(mvTo_rng (n:=n) (L:=F) (S:=J) (rows:=fun v=>dS (v:Int) l) (bd:=bd) n (Nat.le_refl _)).resolve_left (fun h=>by rw [h] at O;simp at O)
       have ac:jH n (fun v=>dS (v:Int) l) bd (most.toNat - mv) (F,J)=((jH n (fun v=>dS (v:Int) l) bd (most.toNat - (mv+1)) ((mvDo F y (j:Int)).1,(mvDo F y (j:Int)).2)).1,(jH n (fun v=>dS (v:Int) l) bd (most.toNat - (mv+1)) ((mvDo F y (j:Int)).1,(mvDo F y (j:Int)).2)).2+1):=by
         obtain ⟨k,hk⟩:∃ k,most.toNat - mv=k+1:=⟨most.toNat - mv - 1,aA⟩
         have e:mvOf n (fun v=>dS (v:Int) l) bd (F,J)=((y:Int),(j:Int),g):=ag
         rw [ag] at O;rw [hk,jH,e,if_pos O,show most.toNat - (mv+1)=k by omega];rfl
       rw [ac] at X;rw [ag];refine bV kh14<|aG fun kh17=>aB 1 rfl<|f_Q (aO (vs:=[_,_,_]) Tryz.isAgg229 Tryz.sizeOf229 rfl rfl ⟨(rdA rfl),(rdA rfl),(rdA rfl),trivial⟩) ?_
       refine f_S (d4 [m1] _ Tryz.call141 rfl (by repeat (first|exact Sub.refl|refine aM ?_)) (fun w_ hp_=>do_spec n _ F J bs m1 y j g w_ aa ae ao ak hp_.owns) ?_);rintro _ _ ⟨m2,rfl,ap⟩;dsimp only [aK,aJ];refine aD kh17<|aI<|aB 1 rfl<|f_Q (a8 rfl rfl)<|aB 1 rfl<|aZ<|dF ?_
       refine cS (a6 ((mvDo F y (j:Int)).1,(mvDo F y (j:Int)).2,mv+1,m2) (by first|omega|(dsimp only;omega)|(simp;omega)) ⟨aA,ap,lok_do ae y (j:Int),by rw [X];congr 1;omega⟩ ?_ ?_ ?_)
       ·exact aF
       ·exact aF
       ·exact aC
     ·have Z:jH n (fun v=>dS (v:Int) l) bd (most.toNat - mv) (F,J)=((F,J),0):=by rw [show most.toNat - mv=0 by omega];rfl
      rw [Z] at X;obtain ⟨Al,cl,ml,bo,vs,ms,bz,hsm,ab,al⟩:=aa
      refine cN<|cO<|cO<|eC<|bO kh10<|aS fun kh18=>eP (Sub.opn (out:=pM bs Al cl F ml bo n vs ms.flatten bz J) hsm) ?_
      unfold pM
      refine aI<|aB 1 rfl<|f_Q (dH rfl)<|cL mX rfl<|cX Tryz.isAgg25 rfl (rdA rfl)<|aB 4 rfl<|aD kh18<|aY ?_
      have e:=hR most
      rw [if_neg aA,X] at e;exact kH [ml] Tryz.results85 rfl rfl rfl (by repeat (first|exact aP|refine aM ?_|refine cE rfl ?_)) ⟨.slice Al F.length cl,ml,by rw [e];simp,rfl,by rw [e];exact ab⟩

end Go.Proofs.YthpkelafioikaaaGreat
