import Derived.Test.YthpkelafioikaaaGreatFlyRun
import Derived.Test.YthpkelafioikaaaGreatAll7
import Derived.Test.YthpkelafioikaaaGreatAll0
import Derived.Test.YthpkelafioikaaaGreatAll2
import Derived.Test.YthpkelafioikaaaGreatAll3
import Derived.Test.YthpkelafioikaaaGreatAll1
import Derived.Test.YthpkelafioikaaaGreatFlyOps2
import Derived.RangeFuncRecord
import Derived.TacticsIn
namespace Go.Proofs.YthpkelafioikaaaGreat
open Go Go.RowKit Fly
set_option maxRecDepth 100000
set_option maxHeartbeats 4000000
set_option linter.all false
theorem Sub.flatR {segs out r:List Seg} (h:Sub segs (out++r)):Sub segs (out.flatten::r):=by
 obtain ⟨q,h⟩:=h
 exact ⟨q,by simpa using h⟩
theorem Sub.openAtF {segs F out:List Seg} {m:Seg} [p:Pick segs m F] (hp:m.Perm out.flatten):Sub segs (out++F):=Sub.pickF hp Sub.refl
theorem nI_get {W:List Nat} {j:Nat} (h:j<W.length):(a8 (nI W))[j]? =some (.int .i64 ((W[j]:Nat):Int)):=by simp [nI,a8,h]
theorem kleft_xor {e:List Arc} {f:List Int} (k:Nat):fN e f k+fN e f (k ^^^ 1)=(eQ e (k / 2)).wt:=by
 rw [xor1]
 unfold fN
 by_cases h:k % 2=0
 ·rw [if_pos h,if_pos h,if_neg aA,show (k+1) / 2=k / 2 by omega];omega
 ·rw [if_neg h,if_neg h,if_pos aA,show (k - 1) / 2=k / 2 by omega];omega
theorem other_at (k:Nat):(k ^^^ 1) / 2*4+2+(k ^^^ 1) % 2=k / 2*4+2+(1 - k % 2):=by
 rw [xor1];split<;>omega
theorem zip_set:∀ {e:List Arc} {f:List Int} {i:Nat} {y:Int},f.length=e.length→i<e.length→List.zip e (f.set i y)=(List.zip e f).set i (eQ e i,y)
 |[],f,i,y,_,h=>by simp at h
 |x::e,[],i,y,h,_=>by simp at h
 |x::e,z::f,0,y,_,_=>by simp [eQ]
 |x::e,z::f,i+1,y,h,hi=>by
  have:=zip_set (e:=e) (f:=f) (i:=i) (y:=y) (by simpa using h) (by simpa using hi)
  simp only [List.set_cons_succ,List.zip_cons_cons,this];simp [eQ]
theorem ecells_push {e:List Arc} {f:List Int} {k:Nat} {d:Int} {sp:List Value} (h:f.length=e.length) (hk:k<2*e.length):
  ((gY e f++sp).set (k / 2*4+2+k % 2) (.int .u32 (fN e f k - d))).set (k / 2*4+2+(1 - k % 2)) (.int .u32 (fN e f (k ^^^ 1)+d))=gY e (k5 f k d)++sp:=by
 have hi:k / 2<e.length:=aA
 obtain ⟨hz,O⟩:=zip_at h hi
 have e1:gY e (k5 f k d)=((List.zip e f).set (k / 2) (eQ e (k / 2),dL f (k / 2)+(if k % 2=0 then d else -d))).flatMap ecs:=by
  unfold gY k5;rw [zip_set h hi]
 have hx:=kleft_xor (e:=e) (f:=f) k
 have J:∀ y,k / 2<((List.zip e f).set (k / 2) y).length:=fun y=>by simpa using hz
 have U:gY e f=(List.zip e f).flatMap ecs:=rfl
 rw [e1,U]
 by_cases h2:k % 2=0
 ·have F:fN e f k=(eQ e (k / 2)).wt - dL f (k / 2):=by unfold fN;rw [if_pos h2]
  rw [h2,if_pos rfl,show k / 2*4+2+0=k / 2*4+2 from rfl,show k / 2*4+2+(1 - 0)=k / 2*4+3 from rfl];rw [nH ecs_len sp (q:=2) aA (List.zip e f) (k / 2) (⟨(eQ e (k / 2)).src,(eQ e (k / 2)).dst,(eQ e (k / 2)).wt - d⟩,dL f (k / 2)) hz (by rw [O];simp only [ecs,List.set_cons_succ,List.set_cons_zero,F];congr 3;congr 1;omega)]
  rw [nH ecs_len sp (q:=3) aA _ (k / 2) (eQ e (k / 2),dL f (k / 2)+d) (J _) (by
   rw [List.getElem_set_self];simp only [ecs,List.set_cons_succ,List.set_cons_zero]
   rw [show fN e f (k ^^^ 1)=dL f (k / 2) by omega,show (eQ e (k / 2)).wt - d - dL f (k / 2)=(eQ e (k / 2)).wt - (dL f (k / 2)+d) by omega])]
  rw [List.set_set]
 ·have h3:k % 2=1:=aA
  have F:fN e f k=dL f (k / 2):=by unfold fN;rw [if_neg h2]
  rw [h3,if_neg aA,show k / 2*4+2+1=k / 2*4+3 from rfl,show k / 2*4+2+(1 - 1)=k / 2*4+2 from rfl]
  rw [nH ecs_len sp (q:=3) aA (List.zip e f) (k / 2) (⟨(eQ e (k / 2)).src,(eQ e (k / 2)).dst,(eQ e (k / 2)).wt - d⟩,dL f (k / 2)+ -d) hz (by
   rw [O];simp only [ecs,List.set_cons_succ,List.set_cons_zero,F]
   rw [show (eQ e (k / 2)).wt - d - (dL f (k / 2)+ -d)=(eQ e (k / 2)).wt - dL f (k / 2) by omega,show dL f (k / 2)+ -d=dL f (k / 2) - d by omega])]
  rw [nH ecs_len sp (q:=2) aA _ (k / 2) (eQ e (k / 2),dL f (k / 2)+ -d) (J _) (by
   rw [List.getElem_set_self];simp only [ecs,List.set_cons_succ,List.set_cons_zero]
   rw [show fN e f (k ^^^ 1)+d=(eQ e (k / 2)).wt - (dL f (k / 2)+ -d) by omega])]
  rw [List.set_set]
theorem ecells_other {e:List Arc} {f:List Int} {k:Nat} {x:Value} {sp:List Value} (h:f.length=e.length) (hk:k<2*e.length):
  ((gY e f++sp).set (k / 2*4+2+k % 2) x)[k / 2*4+2+(1 - k % 2)]? =some (.int .u32 (fN e f (k ^^^ 1))):=by
 rw [List.getElem?_set_ne aA,← other_at];exact d7 (ecells_left h (xor1_lt hk))
theorem min_step {e:List Arc} {f:List Int} {W:List Nat} {j:Nat} {F:Int} (hj:j<W.length) (h:∀ i (h:i<W.length),i<j→F≤fN e f W[i]):∀ i (h:i<W.length),i<j+1→min F (fN e f W[j])≤fN e f W[i]:=fun i hi J=>by
 by_cases e' :i=j
 ·subst e';exact Int.min_le_right _ _
 ·exact Int.le_trans (Int.min_le_left _ _) (h i hi aA)
theorem push_left {e:List Arc} {f:List Int} {W:List Nat} {j:Nat} {d:Int} (hf:f.length=e.length) (hj:j<W.length) (hl:∀ k,k∈W→k<2*e.length) (hn:(W.map (· / 2)).Nodup):fN e (gA f (W.take j) d) W[j]=fN e f W[j]:=by
 have:dL (gA f (W.take j) d) (W[j] / 2)=dL f (W[j] / 2):=flAt_pushAll (fun k hk=>by have:=hl k (List.mem_of_mem_take hk);omega) fun k hk e' =>by
  obtain ⟨i,hi,rfl⟩:=List.mem_iff_getElem.1 hk
  have F:i<j:=by have:=hi;simp at this;omega
  rw [List.getElem_take] at e';have h1:i<(W.map (· / 2)).length:=by simp;omega
  have h2:j<(W.map (· / 2)).length:=by simpa using hj
  exact absurd (by simpa using e') (List.pairwise_iff_getElem.1 hn i j h1 h2 F)
 unfold fN;rw [this]
theorem run_spec (n:Nat) (e:List Arc) (L0 ak:List Int) (bx:Nat) (m:Seg) (s t:Nat) (w:World) (hn:NOk n e) (bq:L0.length=n) (bg:ak.length=n) (hS:DRep n e (List.replicate e.length 0) L0 ak bx m) (hs:s<n) (ht:t<n) (ad:s≠t) (hw:Owns w [m]):
    Meets Tryz.prog 178 [.pointer (some ⟨bx,0,none⟩),.int .i64 (s:Int),.int .i64 (t:Int)] w [m] (fun u own' =>∃ V f L' nx' m',u= .int .u64 V∧own' =[m']∧DRep n e f L' nx' bx m'∧Flow n e s t f V∧Lay n e s f L'∧dL L' t<0∧0≤V∧V≤70368744161280):=by
 have ce:=hn.n1
 have cg:=hn.len
 have bC:∀ x∈e,x.wt≤4294967295:=fun x hx=>(hn.ok x hx).wt.2
 have cm:kO e≤70368744161280:=by have:=capSum_le 4294967295 e bC;omega
 refine bG Tryz.func178 rfl Tryz.ntmps178 rfl hw<|aG fun kh1=>aB 1 rfl<|aD kh1<|aG fun kh2=>aB 1 rfl<|aD kh2<|aV fun kh3=>aS ?_
 refine dF (α:=Int×List Int×List Int×List Int×Seg) [0,1,2] (fun ⟨V,f,L,nx,m1⟩=>[(7,.int .u64 V)]) (fun ⟨V,f,L,nx,m1⟩=>[m1]) (fun ⟨V,f,L,nx,m1⟩=>Flow n e s t f V∧0≤V∧DRep n e f L nx bx m1∧L.length=n∧nx.length=n) (fun ⟨V,f,L,nx,m1⟩=>(kO e - V).toNat) (0,List.replicate e.length 0,L0,ak,m) ?_ ?_ ?_ ?_
 ·exact aF
 ·exact aC
 ·exact ⟨Flow.zero fun x hx=>(hn.ok x hx).wt.1,Int.le_refl _,hS,bq,bg⟩
 ·rintro ⟨V,f,L,nx,m1⟩ ⟨hF,hV,hD,b2,bW⟩;have cf:=hF.val_le hs ad
  refine aV fun bE=>aG fun bu=>aB 3 rfl ?_;refine f_S (d5 [m1] _ Tryz.call191 rfl (aL Sub.refl) (fun w_ J=>layers_spec n e f L nx bx m1 s t w_ hn hF.fits b2 bW hD hs ht J.owns) ?_);rintro _ _ ⟨L1,m1',rfl,ax,Z,rfl⟩;dsimp only [aK,aJ];refine aD bu<|aX rfl (fun c17=>?_) (fun c17=>?_)
  ·refine bZ bE<|aS<|aG fun kh6=>aB 3 rfl ?_
   refine f_S (d5 [m1'] _ Tryz.call192 rfl (aL Sub.refl) (fun w_ J=>way_spec n e f L1 (List.replicate n 0) bx m1' s t w_ hn hF.fits Z.len Z.s0 Z.ge (Nx.start n e) ax hs ht ad J.owns) ?_);rintro b4 _ ⟨W1,bB,m2,bK,rfl,aw,az,bY,ba,av,a2⟩
   have ao:W1≠[]:=fun h=>by
     obtain ⟨a,b⟩:=a2 h (Past.start n e t f L1)
     exact way_there Z hn.net ht c17 az b a
   dsimp only [aK,aJ];refine aB 1 rfl<|aD kh6<|aS ?_
   refine dF (α:=Int×List Int×List Int×Seg×List Nat×Value×Seg) [0,1,2] (fun ⟨V2,O,F,m2,W,wv,wm⟩=>[(7,.int .u64 V2),(8,wv)]) (fun ⟨V2,O,F,m2,W,wv,wm⟩=>[m2,wm]) (fun ⟨V2,O,F,m2,W,wv,wm⟩=>Flow n e s t O V2∧DRep n e O L1 F bx m2∧Nx n e F∧Own 3 1 wv W.length (a8 (nI W)) wm∧W.length≤e.length∧(W≠[]→Way e s t W∧∀ k,k∈W→Good e O L1 k)∧V≤V2∧(W=[]→V<V2)) (fun ⟨V2,O,F,m2,W,wv,wm⟩=>(kO e - V2).toNat) (V,f,bB,m2,W1,b4,bK) ?_ ?_ ?_ ?_
   ·exact aF
   ·exact aC
   ·exact ⟨hF,aw,az,bY,ba,av,Int.le_refl _,fun h=>absurd h ao⟩
   ·rintro ⟨V2,O,F,m2,W,wv,wm⟩ ⟨X,aq,ar,hW,cn,bR,b9,bt⟩;obtain ⟨Aw,cw,rfl,b8⟩:=hW.val
    have b5:=X.val_le hs ad
    refine fJ (e:=[(7,_),(8,_),(0,_),(1,_),(2,_)]) aF ?_;refine aV fun bL=>aG fun kh8=>aB 1 rfl<|dY bU rfl<|aB 1 rfl<|aD kh8<|aX rfl (fun c24=>?_) (fun c24=>?_)
    ·refine bZ bL<|aV fun kh9=>aS<|aV fun kh10=>?_
     have ac:0<W.length:=aA
     have aa:=bR (fun h=>by subst h;simp at ac)
     have ae:=aa.1.lt
     have bc:=aa.1.nodup (L:=L1) fun k hk=>(aa.2 k hk).2
     obtain ⟨bat,bl,bn,ve,vs,ms,me,bh,hR,hE⟩:=aq
     obtain ⟨A,cap,rfl,_⟩:=hE.val
     obtain ⟨bw,sw,rfl,rfl⟩:=hW.at_ ac
     refine eP (Sub.openAtF bh) ?_
     unfold mA
     dsimp only [aK,aJ];refine aI<|aB 2 rfl<|f_Q (aM bU rfl rfl (0))<|f_Q (aH Tryz.isAgg3 rfl (rdA (d7 (nI_get ac)))) ?_
     refine f_S (aW Tryz.call193 rfl (fun w_ J=>left_spec n e O bx bat bl bn W[0] cap A w_ (fK (b:=bx) J (fun j v hj=>hj)) (fD (hE.seen J)) hn X.fits.len (ae _ (List.getElem_mem ac))) ?_);rintro _ _ ⟨rfl,rfl⟩;dsimp only [aK,aJ];refine aB 1 rfl<|aD kh10<|aV fun kh11=>aG fun am=>aB 1 rfl<|dY bU rfl<|aB 1 rfl<|aD am<|aS ?_
     refine dF (α:=Nat×Int) [0,1,2,7,8,34,35] (fun ⟨j,U⟩=>[(36,.int .i64 (j:Int)),(9,.int .u32 U)]) (fun ⟨j,U⟩=>[[(bx,blk (gR (.slice A e.length cap) n bat bl bn) 290)],[(bat,blk vs 25)],ms.flatten,me,[(bl,blk (a8 L1) 3)],[(bn,blk (a8 F) 3)],[(bw,blk (a8 (nI W)++sw) 3)]]) (fun ⟨j,U⟩=>j≤W.length∧0<U∧U≤4294967295∧∀ i (h:i<W.length),i<j→U≤fN e O W[i]) (fun ⟨j,U⟩=>W.length - j) (0,fN e O W[0]) ?_ ?_ ?_ ?_
     ·exact aF
     ·exact aC
     ·exact ⟨Nat.zero_le _,(aa.2 _ (List.getElem_mem _)).1,by have:=kleft_rng X.fits (ae _ (List.getElem_mem ac));have:=(hn.at_ (i:=W[0] / 2) (by have:=ae _ (List.getElem_mem ac);omega));omega,fun i h hi=>aA⟩
     ·rintro ⟨j,U⟩ ⟨bp,cj,ci,aj⟩;refine fJ (e:=[(36,_),(9,_),(0,_),(1,_),(2,_),(7,_),(8,_),(34,_),(35,_)]) aF ?_;refine aG fun kh13=>aB 1 rfl<|aD kh13<|aV fun kh14=>aX rfl (fun b3=>?_) (fun b3=>?_)
      ·refine bZ kh14<|aV fun kh15=>aS<|aG fun kh16=>?_
       have hj:j<W.length:=aA
       refine f_Q (aM bU rfl rfl (j))<|f_Q (aH Tryz.isAgg3 rfl (rdA (d7 (nI_get hj))))<|aB 1 rfl<|aD kh16<|aI<|aB 3 rfl ?_
       refine f_S (aW Tryz.call193 rfl (fun w_ J=>left_spec n e O bx bat bl bn W[j] cap A w_ (fK (b:=bx) J (fun j v hj=>hj)) (fD (hE.seen J)) hn X.fits.len (ae _ (List.getElem_mem hj))) ?_);rintro _ _ ⟨rfl,rfl⟩;dsimp only [aK,aJ];refine f_Q (oH rfl rfl)<|aB 1 rfl<|aY<|dI<|bP kh15<|aI<|f_Q (bF rfl rfl)<|aB 1 rfl<|aY ?_
       refine cV (a6 (j+1,min U (fN e O W[j])) (by first|omega|(dsimp only;omega)|(simp;omega)) ⟨aA,by have:=(aa.2 _ (List.getElem_mem hj)).1;omega,aA,min_step hj aj⟩ ?_ ?_ ?_)
       ·exact aF
       ·exact aF
       ·exact aC
      ·refine cS<|cU<|cU<|eH<|bP kh11<|aV fun kh17=>aG fun ay=>aB 1 rfl<|dY bU rfl<|aB 1 rfl ?_
       refine aD ay<|aS ?_
       have al:∀ k,k∈W→U≤fN e O k:=fun k hk=>by
         obtain ⟨i,hi,rfl⟩:=List.mem_iff_getElem.1 hk
         exact aj i hi aA
       have ai:=X.push aA aa.1 bc al
       have b6:=ai.val_le hs ad
       refine dF (α:=Nat×Seg) [0,1,2,7,9,46,47] (fun ⟨j,Y⟩=>[(48,.int .i64 (j:Int))]) (fun ⟨j,Y⟩=>[[(bx,blk (gR (.slice A e.length cap) n bat bl bn) 290)],[(bat,blk vs 25)],ms.flatten,Y,[(bl,blk (a8 L1) 3)],[(bn,blk (a8 F) 3)],[(bw,blk (a8 (nI W)++sw) 3)]]) (fun ⟨j,Y⟩=>j≤W.length∧Own 301 4 (.slice A e.length cap) e.length (gY e (gA O (W.take j) U)) Y) (fun ⟨j,Y⟩=>W.length - j) (0,me) ?_ ?_ ?_ ?_
       ·exact aF
       ·exact aC
       ·exact ⟨Nat.zero_le _,hE⟩
       ·rintro ⟨j,Y⟩ ⟨bp,ah⟩;refine fJ (e:=[(48,_),(0,_),(1,_),(2,_),(7,_),(9,_),(46,_),(47,_)]) aF ?_;refine aG fun kh19=>aB 1 rfl<|aD kh19<|aV fun kh20=>aX rfl (fun bi=>?_) (fun bi=>?_)
        ·refine bZ kh20<|aV fun kh21=>aS<|aG fun kh22=>?_
         have hj:j<W.length:=aA
         refine f_Q (aM bU rfl rfl (j))<|f_Q (aH Tryz.isAgg3 rfl (rdA (d7 (nI_get hj))))<|aB 1 rfl<|aD kh22<|aV fun kh23=>?_
         have an:=push_left (d:=U) X.fits.len hj ae bc
         have ab:(gA O (W.take j) U).length=e.length:=by rw [pushAll_len];exact X.fits.len
         have ag:=ae _ (List.getElem_mem hj)
         obtain ⟨be,spE,rfl,rfl,a1⟩:=ah.upd aA
         have ck:=aj j hj aA
         have cd:=kleft_rng X.fits ag
         have co:=kleft_xor (e:=e) (f:=gA O (W.take j) U) W[j]
         have b7:=hn.at_ (i:=W[j] / 2) aA
         have ap:=nV ab
         refine gG 17 rfl aU<|dN 1 rfl<|dG (dD rfl)<|dG (aT qS rfl)<|gH Tryz.isAgg288 rfl (rdA rfl)<|dN 1 rfl<|dG (o_shr rfl rfl (by decide) ((W[j] / 2:Nat):Int) (shr_one aA)) ?_
         refine dN 1 rfl<|dG (o_and rfl rfl ((W[j] % 2:Nat):Int) (and_one aA))<|dG (aM sl288 rfl rfl (W[j] / 2*4))<|dG (aT fa301_1 rfl)<|dG (o_idxA ar299 rfl rfl (W[j] / 2*4+2+W[j] % 2) ⟨aA,aA,mac_fo⟩)<|dG (aH Tryz.isAgg56 rfl (rdA (v:= .int .u32 (fN e O W[j])) (d7 (by rw [ecells_left ab ag,an])))) ?_
         refine dN 1 rfl<|dG (j5 rfl rfl _ (wrap_u32 aA))<|dG (aM sl288 rfl rfl (W[j] / 2*4))<|dG (aT fa301_1 rfl)<|dG (o_idxA ar299 rfl rfl (W[j] / 2*4+2+W[j] % 2) ⟨aA,aA,mac_fo⟩)<|eK (i3 ?_)
         refine f_Z (bQ Tryz.sizeOf56 rfl rfl rfl rfl (by rw [List.length_append,ap];omega) _ rfl ?_);refine aD kh23<|gG 18 rfl aU<|dN 1 rfl<|dG (dD rfl)<|dG (aT qS rfl)<|gH Tryz.isAgg288 rfl (rdA rfl)<|dN 1 rfl<|dG (o_shr rfl rfl (by decide) ((W[j] / 2:Nat):Int) (shr_one aA)) ?_
         refine dN 1 rfl<|dG (o_and rfl rfl ((W[j] % 2:Nat):Int) (and_one aA))<|dG (jK rfl rfl)<|dG (aM sl288 rfl rfl (W[j] / 2*4))<|dG (aT fa301_1 rfl)<|dG (o_idxA ar299 rfl rfl (W[j] / 2*4+2+(1 - W[j] % 2)) ⟨aA,aA,mac_fo⟩)<|dG (aH Tryz.isAgg56 rfl (rdA (ecells_other ab ag)))<|dN 1 rfl<|dG (kY rfl rfl _ (wrap_u32 aA))<|dG (aM sl288 rfl rfl (W[j] / 2*4)) ?_
         refine dG (aT fa301_1 rfl)<|dG (o_idxA ar299 rfl rfl (W[j] / 2*4+2+(1 - W[j] % 2)) ⟨aA,aA,mac_fo⟩)<|eK (i3 ?_)
         refine f_Z (bQ Tryz.sizeOf56 rfl rfl rfl rfl (by rw [List.length_set,List.length_append,ap];omega) (gY e (k5 (gA O (W.take j) U) W[j] U)++spE) (by rw [← an];exact ecells_push ab ag) ?_);refine aY<|dI<|bP kh21<|aI<|f_Q (bF rfl rfl)<|aB 1 rfl<|aY ?_
         refine cV (a6 (j+1,[(be,blk (gY e (k5 (gA O (W.take j) U) W[j] U)++spE) 301)]) (by first|omega|(dsimp only;omega)|(simp;omega)) ⟨aA,by rw [List.take_succ_eq_append_getElem hj,pushAll_snoc];exact a1 _ (by rw [nV (by rw [pY];exact ab),nV ab])⟩ ?_ ?_ ?_)
         ·exact aF
         ·exact aF
         ·exact aC
        ·refine cS<|cU<|cU<|eH<|bP kh17 ?_
         have bv:W.take j=W:=List.take_of_length_le aA
         have bj:Own 301 4 (.slice A e.length cap) e.length (gY e (gA O W U)) Y:=by rw [bv] at ah;exact ah
         refine aI<|aB 2 rfl<|f_Q (iH Tryz.runUnderlying56 Tryz.runUnderlying45 rfl _ (iS aA)) ?_
         refine f_Q (kY rfl rfl _ (iS aA))<|aB 1 rfl<|aY<|dI<|bP kh9<|aI<|aB 3 rfl ?_
         refine f_S (d5 [(mA bx bat bl bn n (.slice A e.length cap) vs ms.flatten Y L1 F).flatten] _ Tryz.call192 rfl (Sub.flatR (out:=mA bx bat bl bn n (.slice A e.length cap) vs ms.flatten Y L1 F) (aL (aL (aL (aL (aL (aL Sub.refl))))))) (fun w_ J=>way_spec n e (gA O W U) L1 F bx _ s t w_ hn ai.fits Z.len Z.s0 Z.ge ar (DRep_mk hR bj) hs ht ad J.owns) ?_);rintro v28 _ ⟨W3,bD,m3,br,rfl,bk,b1,bM,bf,au,_⟩;dsimp only [aK,aJ];refine aB 1 rfl<|aY ?_
         refine cV (a6 (V2+U,gA O W U,bD,m3,W3,v28,br) (by show (kO e - (V2+U)).toNat<(kO e - V2).toNat;omega) ⟨ai,bk,b1,bM,bf,au,aA,fun _=>aA⟩ ?_ ?_ ?_)
         ·exact aF
         ·exact aF
         ·exact aC
    ·refine cS<|cU<|cU<|eH<|dI ?_
     refine cV (a6 (V2,O,L1,F,m2) (by have:=bt (by cases W with|nil=>rfl|cons a b=>simp at c24<;>omega);have:=X.val_le hs ad;show (kO e - V2).toNat<(kO e - V).toNat;omega) ⟨X,aA,aq,Z.len,ar.len⟩ ?_ ?_ ?_)
     ·exact aF
     ·exact aF
     ·exact aC
  ·refine cS<|cU<|cU<|eH<|bP kh3<|aG fun kh24=>aB 2 rfl<|aD kh24<|aZ ?_
   exact bO [m1'] Tryz.results178 rfl (by repeat (first|exact aP|refine aL ?_|refine bV rfl ?_)) ⟨V,f,L1,_,m1',rfl,rfl,ax,hF,Z,aA,hV,aA⟩
def jS (N:Int) (l:List Arc):Int×Int:=
 if N<1∨1024<N then (0,1) else if 16384<l.length then (0,2) else
 match l.findIdx? (gE N) with
 |some i=>(i,60)
 |none=>(0,0)
theorem ncheck_range {N:Int} {l:List Arc} (h:N<1∨1024<N):jS N l=(0,1):=by simp [jS,h]
theorem ncheck_long {N:Int} {l:List Arc} (h:1≤N∧N≤1024) (hl:16384<l.length):jS N l=(0,2):=by
 have:¬ (N<1∨1024<N):=aA
 simp [jS,this,hl]
theorem ncheck_ok {N:Int} {l:List Arc} (h:1≤N∧N≤1024) (hl:l.length≤16384) (F:∀ j (h:j<l.length),gE N l[j]=false):jS N l=(0,0):=by
 have h1:¬ (N<1∨1024<N):=aA
 have h2:¬ 16384<l.length:=aA
 have h3:l.findIdx? (gE N)=none:=by
  rw [List.findIdx?_eq_none_iff];intro x hx;obtain ⟨j,hj,rfl⟩:=List.mem_iff_getElem.1 hx
  exact F j hj
 simp [jS,h1,h2,h3]
theorem ncheck_bad {N:Int} {l:List Arc} {k:Nat} (h:1≤N∧N≤1024) (hl:l.length≤16384) (hk:k<l.length) (F:∀ j (h:j<l.length),j<k→gE N l[j]=false) (hb:gE N l[k]=true):
  jS N l=((k:Int),60):=by
 have h1:¬ (N<1∨1024<N):=aA
 have h2:¬ 16384<l.length:=aA
 have h3:l.findIdx? (gE N)=some k:=by
  rw [List.findIdx?_eq_some_iff_getElem];exact ⟨hk,hb,fun j hj=>by simp [F j aA hj]⟩
 simp [jS,h1,h2,h3]
theorem ncheck_zero {N:Int} {l:List Arc} (h:(jS N l).2=0):1≤N∧N≤1024∧l.length≤16384∧∀ k (hk:k<l.length),0≤l[k].src∧l[k].src<N∧0≤l[k].dst∧l[k].dst<N:=by
 unfold jS at h
 split at h
 ·simp at h
 ·split at h
  ·simp at h
  ·cases hf:l.findIdx? (gE N) with
   |some i=>rw [hf] at h;simp at h
   |none=>
    rw [List.findIdx?_eq_none_iff] at hf;refine ⟨aA,aA,aA,fun k hk=>?_⟩;have:=hf _ (List.getElem_mem hk)
    unfold gE at this
    simp at this;omega
def gS (N:Int) (l:List Arc) (s t:Int):Int:=if (jS N l).2≠0 then (jS N l).2 else if s<0∨N≤s∨t<0∨N≤t then 5 else if s=t then 4 else 0
theorem flooked_zero {N:Int} {l:List Arc} {s t:Int} (h:gS N l s t=0):(jS N l).2=0∧0≤s∧s<N∧0≤t∧t<N∧s≠t:=by
 unfold gS at h
 split at h
 ·rename_i h1;exact absurd h h1
 ·split at h
  ·simp at h
  ·split at h
   ·simp at h
   ·rename_i h1 h2 h3;exact ⟨by simpa using h1,aA,aA,aA,aA,h3⟩
theorem nok_of {n:Nat} {l:List Arc} (h:(jS (n:Int) l).2=0) (hok:∀ x∈l,eN x):NOk n l:=by
 obtain ⟨h1,h2,h3,F⟩:=ncheck_zero h
 exact ⟨aA,h3,F,hok⟩
def cutP (sd:List Bool) (x:Arc):Bool:=sd.getD x.src.toNat false&& !sd.getD x.dst.toNat false
theorem Side.congr {n:Nat} {e:List Arc} {s t:Nat} {f:List Int} {A B:Nat→Bool} (h:Side n e s t f A) (he:mQ n e) (hs:s<n) (J:t<n) (F:∀ v,v<n→A v=B v):Side n e s t f B where
 src:=by rw [← F s hs];exact h.src
 dst:=by rw [← F t J];exact h.dst
 shut:=fun k hk hl hB=>by rw [← F _ (kto_lt he hk)];exact h.shut k hk hl (by rw [F _ (nR he hk)];exact hB)
 reach:=fun v hv hB=>h.reach v hv (by rw [F v hv];exact hB)
theorem bools_repF (b:Bool) (n:Nat):(List.replicate n [Value.bool b]).flatten=(List.replicate n b).map .bool:=by
 induction n with
 |zero=>rfl
 |succ n ih=>simp only [List.replicate_succ,List.flatten_cons,List.map_cons,ih];rfl
theorem bools_setF (l:List Bool) (i:Nat) (b:Bool):(l.map Value.bool).set i (.bool b)=(l.set i b).map .bool:=by rw [List.map_set]
theorem bools_at {l:List Bool} {i:Nat} (h:i<l.length):(l.map Value.bool)[i]? =some (.bool (l.getD i false)):=by simp [List.getD_eq_getElem?_getD,h]
def OwnB (v:Value) (sd:List Bool) (m:Seg):Prop:=(sd=[]∧v= .slice none 0 0∧m=[])∨∃ b,v= .slice (some ⟨b,0,none⟩) sd.length sd.length∧m=[(b,blk (sd.map .bool) 4)]
theorem OwnB.own {v:Value} {sd:List Bool} {m:Seg} (h:OwnB v sd m) (hm:sd.length≤9223372036854775807):Own 4 1 v sd.length (sd.map .bool) m:=by
 rcases h with ⟨rfl,rfl,rfl⟩|⟨b,rfl,rfl⟩
 ·exact Own.nil _ _
 ·exact Own.mk aO hm
def CutΦ2 (N:Int) (e:List Arc) (s t:Int) (u:Value) (own:List Seg):Prop:=
 ∃ V v m sd A c m2 W,u= .tuple #[v,.slice A W.length W.length,.int .u64 V,.int .i64 (gS N e s t)]∧own=[m,m2]∧OwnB v sd m∧Own 3 1 (.slice A W.length c) W.length (a8 W) m2∧
  (gS N e s t≠0→V=0∧sd=[]∧W=[])∧
  (gS N e s t=0→sd.length=N.toNat∧W=gB (cutP sd) e∧(∃ f,Flow N.toNat e s.toNat t.toNat f V∧Side N.toNat e s.toNat t.toNat f (fun v=>sd.getD v false))∧0≤V∧V≤70368744161280)
theorem FCheck_spec (N:Int) (A:Option Addr) (l:List Arc) (cap:Nat) (w:World) (hr:Ro (Fr w []) w A (l.flatMap cH)) (hl:l.length≤9223372036854775807) (hN:I64 N) (hok:∀ x∈l,eN x):
    Meets Tryz.prog 190 [.agg #[.int .i64 N,.slice A l.length cap]] w [] (fun v m=>v= .tuple #[.int .i64 (jS N l).1,.int .i64 (jS N l).2]∧m=[]):=by
 refine bG Tryz.func190 rfl Tryz.ntmps190 rfl Owns.nil<|aG fun kh1=>f_S (cZ rfl rfl fun b1=>?_)
 refine aB 2 rfl<|aD kh1<|aV fun kh2=>aG fun kh3=>cN lW rfl<|c7 Tryz.isAgg3 rfl (rdA rfl)<|aB 2 rfl<|eA 9 rfl (fun g9=>?_) (fun g9=>?_)
 ·refine aB 4 rfl<|aD kh3<|eW rfl<|aG fun kh4=>aB 2 rfl<|aD kh4<|aZ<|dA ?_
  exact dB [] Tryz.results190 rfl rfl aP ⟨by rw [ncheck_range aA],rfl⟩
 ·refine eI rfl rfl (aT lW rfl)<|eI rfl rfl (aH Tryz.isAgg3 rfl (rdA rfl))<|aB 2 rfl<|aD kh3<|aX rfl (fun c13=>?_) (fun c13=>?_)
  ·refine aG fun Z=>aB 2 rfl<|aD Z<|aZ<|dA ?_
   exact dB [] Tryz.results190 rfl rfl aP ⟨by rw [ncheck_range aA],rfl⟩
  ·have F:1≤N∧N≤1024:=aA
   refine bZ kh2<|aV fun kh6=>aG fun kh7=>cN fa265_1 rfl<|c7 Tryz.isAgg263 rfl (rdA rfl)<|dY sl263 rfl<|aB 1 rfl<|aD kh7<|aX rfl (fun c17=>?_) (fun c17=>?_)
   ·refine aG fun Y=>aB 2 rfl<|aD Y<|aZ<|dA ?_
    exact dB [] Tryz.results190 rfl rfl aP ⟨by rw [ncheck_long F aA],rfl⟩
   ·refine bZ kh6<|aV fun kh9=>aG fun U=>cN fa265_1 rfl<|c7 Tryz.isAgg263 rfl (rdA rfl)<|dY sl263 rfl<|aB 1 rfl<|aD U<|aS ?_
    refine dF (α:=Nat) [1,19,20] (fun k=>[(21,.int .i64 (k:Int))]) (fun k=>[[(b1,blk [.int .i64 N,.slice A l.length cap] 265)]]) (fun k=>k≤l.length∧∀ j (h:j<l.length),j<k→gE N l[j]=false) (fun k=>l.length - k) (0) ?_ ?_ ?_ ?_
    ·exact aF
    ·exact aC
    ·exact ⟨aA,fun j h hj=>aA⟩
    ·rintro k ⟨aa,J⟩;refine aG fun kh11=>aB 1 rfl<|aD kh11<|aV fun kh12=>aX rfl (fun X=>?_) (fun X=>?_)
     ·refine bZ kh12<|aV fun kh13=>aS<|aG fun kh14=>aB 1 rfl ?_
      have hk:k<l.length:=aA
      obtain ⟨b,off,rfl,hS,hc⟩:=hr (fH cH dO aA hk)
      refine f_Q (aM sl263 rfl rfl (off+k*3))<|f_Q (aQ (vs:=cH l[k]) Tryz.isAgg267 Tryz.sizeOf267 rfl rfl (gV dO hS hc hk))<|f_S (cX Tryz.zeroValue267 rfl fun b5=>?_)
      refine aB 1 rfl<|f_Z (bS Tryz.sizeOf267 rfl rfl rfl rfl cG (cH l[k]) rfl ?_)
      refine aD kh14<|aG fun kh15=>cN fa267_0 rfl<|c7 Tryz.isAgg3 rfl (rdA rfl)<|f_Q (iH Tryz.runUnderlying3 Tryz.runUnderlying118 rfl _ rfl) ?_
      refine cN lW rfl<|c7 Tryz.isAgg3 rfl (rdA rfl)<|f_Q (iH Tryz.runUnderlying3 Tryz.runUnderlying118 rfl _ rfl) ?_
      refine aB 2 rfl<|eA 33 rfl (fun g33=>?_) (fun g33=>?_)
      ·refine aB 8 rfl<|aD kh15<|eW rfl<|aG fun kh16=>aB 3 rfl<|aD kh16<|aZ<|fA<|dA<|dA ?_
       refine fA<|dA ?_
       exact dB [] Tryz.results190 rfl rfl aP ⟨by rw [ncheck_bad F aA hk J (arcBadL F (hok _ (List.getElem_mem hk)) g33)],rfl⟩
      ·refine eI rfl rfl (aT fa267_1 rfl)<|eI rfl rfl (aH Tryz.isAgg3 rfl (rdA rfl))<|eI rfl rfl (iH Tryz.runUnderlying3 Tryz.runUnderlying118 rfl _ rfl) ?_;refine eI rfl rfl (aT lW rfl)<|eI rfl rfl (aH Tryz.isAgg3 rfl (rdA rfl))<|eI rfl rfl (iH Tryz.runUnderlying3 Tryz.runUnderlying118 rfl _ rfl) ?_;refine aB 2 rfl<|aD kh15<|aX rfl (fun c41=>?_) (fun c41=>?_)
       ·refine aG fun O=>aB 3 rfl<|aD O<|aZ<|fA<|dA<|dA<|fA<|dA ?_
        exact dB [] Tryz.results190 rfl rfl aP ⟨by rw [ncheck_bad F aA hk J (arcBadR F (hok _ (List.getElem_mem hk)) c41)],rfl⟩
       ·refine dZ<|dI<|bP kh13<|aI<|f_Q (bF rfl rfl)<|aB 1 rfl<|aY ?_
        refine cV (a6 (k+1) (by first|omega|(dsimp only;omega)|(simp;omega)) ⟨aA,good_next J (arcGood F (hok _ (List.getElem_mem hk)) g33 c41)⟩ ?_ ?_ ?_)
        ·exact aF
        ·exact aF
        ·exact aC
     ·refine cS<|cU<|cU<|eH<|bP kh9<|aG fun kh18=>aB 2 rfl<|aD kh18<|aZ ?_
      exact dB [] Tryz.results190 rfl rfl aP ⟨by rw [ncheck_ok F aA (fun j h=>J j h aA)],rfl⟩
theorem FLooked_spec (N:Int) (A:Option Addr) (l:List Arc) (cap:Nat) (s t:Int) (w:World) (hr:Ro (Fr w []) w A (l.flatMap cH)) (hl:l.length≤9223372036854775807) (X:I64 N) (hok:∀ x∈l,eN x):
    Meets Tryz.prog 176 [.agg #[.int .i64 N,.slice A l.length cap],.int .i64 s,.int .i64 t] w [] (fun u m=>u= .int .i64 (gS N l s t)∧m=[]):=by
 refine bG Tryz.func176 rfl Tryz.ntmps176 rfl Owns.nil<|aG fun kh1=>f_S (cZ rfl rfl fun Z=>?_)
 refine aB 1 rfl<|aD kh1<|aV fun kh2=>aG fun kh3=>f_Q (aQ (vs:=[_,_]) Tryz.isAgg265 Tryz.sizeOf265 rfl rfl ⟨(rdA rfl),(rdA rfl),trivial⟩) ?_
 refine f_S (aW Tryz.call190 rfl (fun Y O=>FCheck_spec N A l cap Y (hr.up0 O) hl X hok) ?_);rintro _ _ ⟨rfl,rfl⟩;dsimp only [aK,aJ];refine aB 5 rfl<|aD kh3<|aG fun kh4=>aB 2 rfl<|aD kh4<|aX rfl (fun c15=>?_) (fun c15=>?_)
 ·refine aG fun U=>aB 2 rfl<|aD U<|aZ<|dA ?_
  exact bO [] Tryz.results176 rfl aP ⟨by unfold gS;rw [if_pos (by simpa using c15)],rfl⟩
 ·refine bZ kh2<|aV fun kh6=>aS<|aG fun kh7=>aB 3 rfl<|eA 20 rfl (fun g20=>?_) (fun g20=>?_)
  ·refine aB 16 rfl<|aD kh7<|eW rfl<|aG fun kh8=>aB 1 rfl<|aD kh8<|aZ<|fA<|dA ?_
   exact bO [] Tryz.results176 rfl aP ⟨by unfold gS;rw [if_neg (by simpa using c15),if_pos aA],rfl⟩
  ·refine aB 1 rfl<|eI rfl rfl (aT lW rfl)<|eI rfl rfl (aH Tryz.isAgg3 rfl (rdA rfl))<|aB 3 rfl<|eA 26 rfl (fun g26=>?_) (fun g26=>?_)
   ·refine aB 10 rfl<|aD kh7<|eW rfl<|aG fun kh9=>aB 1 rfl<|aD kh9<|aZ<|fA<|dA ?_
    exact bO [] Tryz.results176 rfl aP ⟨by unfold gS;rw [if_neg (by simpa using c15),if_pos aA],rfl⟩
   ·refine aB 4 rfl<|eA 30 rfl (fun g30=>?_) (fun g30=>?_)
    ·refine aB 6 rfl<|aD kh7<|eW rfl<|aG fun kh10=>aB 1 rfl<|aD kh10<|aZ<|fA<|dA ?_
     exact bO [] Tryz.results176 rfl aP ⟨by unfold gS;rw [if_neg (by simpa using c15),if_pos aA],rfl⟩
    ·refine aB 1 rfl<|eI rfl rfl (aT lW rfl)<|eI rfl rfl (aH Tryz.isAgg3 rfl (rdA rfl))<|aB 3 rfl<|aD kh7<|aX rfl (fun c17=>?_) (fun c17=>?_)
     ·refine aG fun J=>aB 1 rfl<|aD J<|aZ<|fA<|dA ?_
      exact bO [] Tryz.results176 rfl aP ⟨by unfold gS;rw [if_neg (by simpa using c15),if_pos aA],rfl⟩
     ·refine aG fun kh12=>aB 4 rfl<|aD kh12<|aX rfl (fun c36=>?_) (fun c36=>?_)
      ·refine aG fun F=>aB 1 rfl<|aD F<|aZ<|fA<|dA ?_
       exact bO [] Tryz.results176 rfl aP ⟨by unfold gS;rw [if_neg (by simpa using c15),if_neg aA,if_pos aA],rfl⟩
      ·refine dZ<|dI<|bP kh6<|aG fun kh14=>aB 1 rfl<|aD kh14<|aZ ?_
       exact bO [] Tryz.results176 rfl aP ⟨by unfold gS;rw [if_neg (by simpa using c15),if_neg aA,if_neg aA],rfl⟩
theorem ClipF5_spec (A:Option Addr) (len cap:Nat) (w:World) (h:len≤cap) (hm:cap≤9223372036854775807) (hA:A=none→len=0):
    Meets Tryz.prog 159 [.slice A len cap] w [] (fun u m=>u= .slice A len len∧m=[]):=by
 refine bG Tryz.func159 rfl Tryz.ntmps159 rfl Owns.nil<|aG fun kh1=>aB 1 rfl<|aD kh1<|aG fun kh2=>aB 2 rfl<|dY bU rfl<|aB 1 rfl<|dY bU rfl<|f_Q (f7 bU rfl rfl rfl rfl (fun _=>rfl) 0 len len (.inl ⟨rfl,rfl⟩) (.inr ⟨_,_,rfl,aA⟩) (.inr ⟨_,_,rfl,aA⟩) ⟨aA,aA,aA⟩ (.slice A len len) (by rw [Nat.sub_zero];congr 1;split;rfl;cases A with|none=>rfl|some x=>obtain ⟨p,q,r⟩:=x;cases r<;>simp [Addr.add])) ?_
 refine aB 1 rfl<|aD kh2<|aZ ?_
 exact bO [] Tryz.results159 rfl aP ⟨rfl,rfl⟩
theorem Cut_spec2 (N:Int) (A:Option Addr) (l:List Arc) (cap:Nat) (s t:Int) (w:World) (hr:Ro (Fr w []) w A (l.flatMap cH)) (hl:l.length≤9223372036854775807) (hN:I64 N) (hok:∀ x∈l,eN x):
    Meets Tryz.prog 163 [.agg #[.int .i64 N,.slice A l.length cap],.int .i64 s,.int .i64 t] w [] (CutΦ2 N l s t):=by
 refine bG Tryz.func163 rfl Tryz.ntmps163 rfl Owns.nil<|aG fun kh1=>f_S (cZ rfl rfl fun b3=>?_)
 refine aB 4 rfl<|aD kh1<|aV fun kh2=>aG fun kh3=>f_Q (aQ (vs:=[_,_]) Tryz.isAgg265 Tryz.sizeOf265 rfl rfl ⟨(rdA rfl),(rdA rfl),trivial⟩)<|aB 2 rfl ?_
 refine f_S (aW Tryz.call176 rfl (fun J F=>FLooked_spec N A l cap s t J (hr.up0 F) hl hN hok) ?_);rintro _ _ ⟨rfl,rfl⟩;dsimp only [aK,aJ];refine aB 1 rfl<|aD kh3<|aG fun kh4=>aB 2 rfl<|aD kh4<|aX rfl (fun c21=>?_) (fun c21=>?_)
 ·refine aG fun aj=>aB 5 rfl<|aD aj<|aZ<|dA ?_
  exact f_fin4 [[],[]] Tryz.results163 rfl rfl rfl rfl (Sub.transF Sub.empty Sub.addNil) ⟨0,.slice none 0 0,[],[],none,0,[],[],rfl,rfl,.inl ⟨rfl,rfl,rfl⟩,Own.nil _ _,fun _=>⟨rfl,rfl,rfl⟩,fun h=>absurd h c21⟩
 ·have hz:gS N l s t=0:=by simpa using c21
  obtain ⟨ad,az,ax,bi,a2,au⟩:=flooked_zero hz
  have bf:=ncheck_zero ad
  obtain ⟨n,rfl⟩:∃ n:Nat,N=n:=⟨N.toNat,aA⟩
  obtain ⟨a,rfl⟩:∃ k:Nat,s=k:=⟨s.toNat,aA⟩
  obtain ⟨b,rfl⟩:∃ k:Nat,t=k:=⟨t.toNat,aA⟩
  have hn:=nok_of ad hok
  have a1:=hn.n1
  have bc:=hn.len
  have X:a<n:=aA
  have Z:b<n:=aA
  have aq:a≠b:=aA
  refine bZ kh2<|aG fun kh6=>f_Q (aQ (vs:=[_,_]) Tryz.isAgg265 Tryz.sizeOf265 rfl rfl ⟨(rdA rfl),(rdA rfl),trivial⟩) ?_
  refine f_S (aW Tryz.call177 rfl (fun J F=>fbegin_spec n A l cap J (hr.up0 F) hn) ?_);rintro _ _ ⟨bx,mD,rfl,rfl,al⟩;dsimp only [aK,aJ];refine aB 1 rfl<|aD kh6<|aG fun kh7=>aB 3 rfl ?_
  refine f_S (d5 [mD] _ Tryz.call178 rfl (aL Sub.refl) (fun J F=>run_spec n l (List.replicate n 0) (List.replicate n 0) bx mD a b J hn aO aO al X Z aq F.owns) ?_);rintro _ _ ⟨V,f,L,nx,m',rfl,rfl,hD,hF,ac,ar,am,ag⟩;have aw:=hF.fits.len
  have be:=ac.len
  dsimp only [aK,aJ];refine aB 1 rfl<|aD kh7<|aG fun kh8=>cN lW rfl<|c7 Tryz.isAgg3 rfl (rdA rfl)<|f_S (e6 el37 rfl rfl n rfl aA aA ((List.replicate n false).map .bool) (bools_repF false n) fun b31=>?_)
  refine aB 1 rfl<|aD kh8<|aV fun kh9=>aV fun ab=>?_
  obtain ⟨bat,bl,bn,ve,vs,ms,me,ah,hR,hE⟩:=hD
  obtain ⟨Ae,ce,rfl,_⟩:=hE.val
  refine eP (Sub.openAtF ah) ?_
  unfold mA
  dsimp only [aK,aJ];refine aI<|aB 1 rfl<|f_Q (dD rfl)<|cN lV rfl<|c7 Tryz.isAgg25 rfl (rdA rfl)<|dY bU rfl<|aB 1 rfl<|aD ab<|aS ?_
  refine dF (α:=Nat×List Bool) [3,6,7,8,35,36] (fun ⟨v,sd⟩=>[(37,.int .i64 (v:Int))]) (fun ⟨v,sd⟩=>[[(b31,blk (sd.map .bool) 4)],[(bl,blk (a8 L) 3)],[(b3,blk [.int .i64 (n:Int),.slice A l.length cap] 265)]]) (fun ⟨v,sd⟩=>v≤n∧sd.length=n∧∀ u,u<v→sd.getD u false=decide (0≤dL L u)) (fun ⟨v,sd⟩=>n - v) (0,List.replicate n false) ?_ ?_ ?_ ?_
  ·exact aF
  ·exact aC
  ·exact ⟨Nat.zero_le _,aO,fun j h=>aA⟩
  ·rintro ⟨v,sd⟩ ⟨av,hsl,U⟩;refine aG fun kh11=>aB 1 rfl<|aD kh11<|aV fun kh12=>aX rfl (fun ai=>?_) (fun ai=>?_)
   ·refine bZ kh12<|aV fun kh13=>aS<|aG fun kh14=>aB 1 rfl ?_
    have ba:v<n:=aA
    refine f_Q (aM bU rfl rfl (v))<|f_Q (aH Tryz.isAgg3 rfl (rdA (k3 aA)))<|aB 2 rfl<|aD kh14<|aI<|aB 4 rfl<|f_Q (aM n4 rfl rfl (v))<|f_Z (bQ Tryz.sizeOf4 rfl rfl rfl rfl (by rw [List.length_map];omega) ((sd.set v (decide (0≤dL L v))).map .bool) (bools_setF _ _ _) ?_)
    refine aY<|dI<|bP kh13<|aI<|f_Q (bF rfl rfl)<|aB 1 rfl<|aY ?_
    refine cV (a6 (v+1,sd.set v (decide (0≤dL L v))) (by first|omega|(dsimp only;omega)|(simp;omega)) ⟨aA,by simpa using hsl,fun u hu=>by
      rw [List.getD_eq_getElem?_getD,List.getElem?_set]
      by_cases e:v=u
      ·subst e;rw [if_pos rfl,if_pos aA];rfl
      ·rw [if_neg e,← List.getD_eq_getElem?_getD];exact U u aA⟩ ?_ ?_ ?_)
    ·exact aF
    ·exact aF
    ·exact aC
   ·refine cS<|cU<|cU<|eH<|bP kh9<|aV fun kh15=>aG fun aa=>cN fa265_1 rfl<|c7 Tryz.isAgg263 rfl (rdA rfl)<|dY sl263 rfl ?_
    refine aB 1 rfl<|aD aa<|aS ?_
    refine dF (α:=Nat×Value×Seg) [6,8,49,50] (fun ⟨i,O,wm⟩=>[(51,.int .i64 (i:Int)),(7,O)]) (fun ⟨i,O,wm⟩=>[[(b31,blk (sd.map .bool) 4)],[(b3,blk [.int .i64 (n:Int),.slice A l.length cap] 265)],wm]) (fun ⟨i,O,wm⟩=>i≤l.length∧Own 3 1 O (gB (cutP sd) (l.take i)).length (a8 (gB (cutP sd) (l.take i))) wm∧(gB (cutP sd) (l.take i)).length≤i) (fun ⟨i,O,wm⟩=>l.length - i) (0,.slice none 0 0,[]) ?_ ?_ ?_ ?_
    ·exact aF
    ·exact aC
    ·exact ⟨Nat.zero_le _,Own.nil _ _,Nat.le_refl _⟩
    ·rintro ⟨i,O,wm⟩ ⟨bg,hW,ay⟩;obtain ⟨Aw,cw,rfl,Y⟩:=hW.val
     refine fJ (e:=[(51,_),(7,_),(6,_),(8,_),(49,_),(50,_)]) aF ?_;refine aG fun kh17=>aB 1 rfl<|aD kh17<|aV fun kh18=>aX rfl (fun ao=>?_) (fun ao=>?_)
     ·refine bZ kh18<|aV fun kh19=>aS<|aG fun kh20=>aB 1 rfl ?_
      have hi:i<l.length:=aA
      obtain ⟨bq,off,rfl,hS,hc⟩:=hr (fH cH dO aA hi)
      have bh:=hn.good i hi
      refine f_Q (aM sl263 rfl rfl (off+i*3))<|f_Q (aQ (vs:=cH l[i]) Tryz.isAgg267 Tryz.sizeOf267 rfl rfl (gV dO hS hc hi))<|f_S (cX Tryz.zeroValue267 rfl fun b15=>?_)
      refine aB 1 rfl<|f_Z (bS Tryz.sizeOf267 rfl rfl rfl rfl cG (cH l[i]) rfl ?_)
      refine aD kh20<|aG fun kh21=>aB 1 rfl<|cN fa267_0 rfl<|c7 Tryz.isAgg3 rfl (rdA rfl)<|f_Q (aM n4 rfl rfl (l[i].src.toNat))<|f_Q (aH Tryz.isAgg4 rfl (rdA (bools_at aA)))<|aB 1 rfl<|nD 61 rfl (fun g61=>?_) (fun g61=>?_)
      ·refine aB 1 rfl<|eI rfl rfl (aT fa267_1 rfl)<|eI rfl rfl (aH Tryz.isAgg3 rfl (rdA rfl))<|eI rfl rfl (aM n4 rfl rfl (l[i].dst.toNat))<|eI rfl rfl (aH Tryz.isAgg4 rfl (rdA (bools_at aA)))<|aB 2 rfl<|aD kh21<|e8 rfl (fun c68=>?_) (fun c68=>?_)
       ·refine aI<|aB 2 rfl<|f_S (bX eO aA rfl rfl rfl fun b71=>?_)
        refine f_S (dJ eO rfl rfl hW (ys:=[.int .i64 (i:Int)]) ⟨(rdA rfl),trivial⟩ rfl rfl aA aA fun ae ak an=>?_);refine aB 1 rfl<|aY<|dI<|bP kh19<|aI<|f_Q (bF rfl rfl)<|aB 1 rfl<|aY ?_
        refine cV (a6 (i+1,ae,ak) (by first|omega|(dsimp only;omega)|(simp;omega)) ⟨aA,by rw [nU hi (by unfold cutP;rw [g61,c68];rfl),List.length_append,eL];exact an,by rw [nU hi (by unfold cutP;rw [g61,c68];rfl),List.length_append];simp;omega⟩ ?_ ?_ ?_)
        ·exact aF
        ·exact aF
        ·exact aC
       ·refine dZ<|dI<|bP kh19<|aI<|f_Q (bF rfl rfl)<|aB 1 rfl<|aY ?_
        refine cV (a6 (i+1,.slice Aw (gB (cutP sd) (l.take i)).length cw,wm) (by first|omega|(dsimp only;omega)|(simp;omega)) ⟨aA,by rw [lU hi (by unfold cutP;first|(rw [g61,c68];rfl)|(rw [g61];rfl))];exact hW,by rw [lU hi (by unfold cutP;first|(rw [g61,c68];rfl)|(rw [g61];rfl))];omega⟩ ?_ ?_ ?_)
        ·exact aF
        ·exact aF
        ·exact aC
      ·refine aB 7 rfl<|aD kh21<|h7 rfl<|dZ<|dI<|bP kh19<|aI<|f_Q (bF rfl rfl)<|aB 1 rfl<|aY ?_
       refine cV (a6 (i+1,.slice Aw (gB (cutP sd) (l.take i)).length cw,wm) (by first|omega|(dsimp only;omega)|(simp;omega)) ⟨aA,by rw [lU hi (by unfold cutP;first|(rw [g61,c68];rfl)|(rw [g61];rfl))];exact hW,by rw [lU hi (by unfold cutP;first|(rw [g61,c68];rfl)|(rw [g61];rfl))];omega⟩ ?_ ?_ ?_)
       ·exact aF
       ·exact aF
       ·exact aC
     ·refine cS<|cU<|cU<|eH<|bP kh15<|aG fun kh22=>aB 2 rfl ?_
      refine f_S (aW Tryz.call159 rfl (fun J F=>ClipF5_spec Aw (gB (cutP sd) (l.take i)).length cw J Y.1 Y.2 (kX hW)) ?_);rintro _ _ ⟨rfl,rfl⟩;dsimp only [aK,aJ];refine aB 5 rfl<|aD kh22<|aZ ?_
      have ap:l.take i=l:=List.take_of_length_le aA
      rw [ap] at hW ⊢;exact f_fin4 [[(b31,blk (sd.map .bool) 4)],wm] Tryz.results163 rfl rfl rfl rfl (by repeat (first|exact aP|refine aL ?_|refine bV rfl ?_)) ⟨V,_,_,sd,Aw,cw,wm,_,by rw [hz],rfl,.inr ⟨b31,by rw [hsl],rfl⟩,hW,fun h=>absurd hz h,fun _=>by rw [Int.toNat_natCast,Int.toNat_natCast,Int.toNat_natCast];exact ⟨hsl,rfl,⟨f,hF,(ac.side hn.net ar).congr hn.net X Z fun u hu=>(U u aA).symm⟩,am,ag⟩⟩
def iQ (n:Nat) (l:List Arc):List (List Int):=(List.range n).map fun v=>l.flatMap (nbr (Int.ofNat v))
def nrows (n:Nat) (l:List Arc):List (List Int):=(List.range n).map fun v=>dS (Int.ofNat v) l
def j1 (n:Nat) (l:List Arc) (j:Nat):List (List Int):=(List.range n).map fun v=>if v<j then dS (Int.ofNat v) l else l.flatMap (nbr (Int.ofNat v))
theorem iK (n:Nat) (l:List Arc):(iQ n l).length=n:=by simp [iQ]
theorem nrows_len (n:Nat) (l:List Arc):(nrows n l).length=n:=by simp [nrows]
theorem mixRows_len (n:Nat) (l:List Arc) (j:Nat):(j1 n l j).length=n:=by simp [j1]
theorem jB {n:Nat} {l:List Arc} {i:Nat} (h:i<(iQ n l).length):(iQ n l)[i]=l.flatMap (nbr (i:Int)):=by simp [iQ]
theorem nrows_get {n:Nat} {l:List Arc} {i:Nat} (h:i<(nrows n l).length):(nrows n l)[i]=dS (i:Int) l:=by simp [nrows]
theorem oI {n:Nat} {l:List Arc} {i j:Nat} (h:i<(j1 n l j).length):(j1 n l j)[i]=if i<j then dS (i:Int) l else l.flatMap (nbr (i:Int)):=by simp [j1]
theorem rawRows_nil (n:Nat):iQ n []=List.replicate n []:=by
 refine List.ext_getElem (by simp [iQ]) fun i h1 h2=>?_;rw [jB];simp
theorem rawRows_same {n:Nat} {l:List Arc} {k:Nat} (hk:k<l.length) (h:l[k].src=l[k].dst):iQ n (l.take (k+1))=iQ n (l.take k):=by
 refine List.ext_getElem (by simp [iQ]) fun i h1 h2=>?_;rw [jB,jB,pM hk];simp [nbr,h]
theorem oF {n:Nat} {l:List Arc} {k s d:Nat} (hk:k<l.length) (hs:l[k].src=(s:Int)) (hd:l[k].dst=(d:Int)) (F:s≠d):
  ((iQ n (l.take k)).set s ((l.take k).flatMap (nbr (s:Int))++[l[k].dst])).set d ((l.take k).flatMap (nbr (d:Int))++[l[k].src])=iQ n (l.take (k+1)):=by
 refine List.ext_getElem (by simp [iQ]) fun i h1 h2=>?_;have e1:¬ l[k].src=l[k].dst:=aA
 rw [jB,pM hk]
 by_cases h:i=d
 ·subst h
  rw [List.getElem_set_self]
  unfold nbr
  rw [if_neg e1,if_neg aA,if_pos aA]
 ·rw [List.getElem_set_ne aA]
  by_cases h' :i=s
  ·subst h'
   rw [List.getElem_set_self]
   unfold nbr
   rw [if_neg e1,if_pos aA]
  ·rw [List.getElem_set_ne aA,jB]
   unfold nbr
   rw [if_neg e1,if_neg aA,if_neg aA];simp
theorem mixRows_zero (n:Nat) (l:List Arc):j1 n l 0=iQ n l:=by simp [j1,iQ]
theorem mixRows_all (n:Nat) (l:List Arc):j1 n l n=nrows n l:=by
 refine List.ext_getElem (by simp [j1,nrows]) fun i h1 h2=>?_;rw [oI,nrows_get,if_pos (by simpa [nrows] using h2)]
theorem mixRows_next {n:Nat} {l:List Arc} {j:Nat}:(j1 n l j).set j (cpt (iU (l.flatMap (nbr (j:Int)))))=j1 n l (j+1):=by
 refine List.ext_getElem (by simp [j1]) fun i h1 h2=>?_;rw [oI]
 by_cases h:i=j
 ·subst h;rw [List.getElem_set_self,if_pos aA];rfl
 ·rw [List.getElem_set_ne aA,oI]
  by_cases h' :i<j
  ·rw [if_pos h',if_pos aA]
  ·rw [if_neg h',if_neg aA]
theorem gK {E:TypeId} {v:Value} {l:List Int} {x:Int} {m:Seg}:Own E 1 v (l.length+1) (a8 l++[.int .i64 x]) m=Own E 1 v (l++[x]).length (a8 (l++[x])) m:=by rw [eL,List.length_append];rfl
theorem rep_flat' (n:Nat) (v:Value):List.replicate n v=(List.replicate n [v]).flatten:=by
 induction n with
 |zero=>rfl
 |succ n ih=>rw [List.replicate_succ,List.replicate_succ,List.flatten_cons,← ih];rfl
theorem qB (n:Nat) (A:Option Addr) (l:List Arc) (cap:Nat) (w:World) (hr:Ro (Fr w []) w A (l.flatMap cH)) (hn:n≤1024) (hlen:l.length≤8192) (bh:∀ k (hk:k<l.length),0≤l[k].src∧l[k].src<(n:Int)∧0≤l[k].dst∧l[k].dst<(n:Int)):
    Meets Tryz.prog 168 [.agg #[.int .i64 (n:Int),.slice A l.length cap]] w [] (fun u own' =>∃ bo vs ms,u= .slice (some ⟨bo,0,none⟩) n n∧own' =[[(bo,blk vs 25)],ms.flatten]∧RowsI 3 (nrows n l) vs ms):=by
 refine bG Tryz.func168 rfl Tryz.ntmps168 rfl Owns.nil<|aG fun kh1=>f_S (cZ rfl rfl fun b1=>?_)
 refine aB 1 rfl<|aD kh1<|aG fun kh2=>cN eV rfl<|c7 Tryz.isAgg3 rfl (rdA rfl)<|f_S (e6 el32 rfl rfl n rfl aA aA (List.replicate n (.slice none 0 0)) (rep_flat' n _).symm fun b9=>?_)
 refine aB 1 rfl<|aD kh2<|aV fun kh3=>aG fun be=>cN gM rfl<|c7 Tryz.isAgg22 rfl (rdA rfl)<|dY j7 rfl<|aB 1 rfl<|aD be<|aS ?_
 refine dF (α:=Nat×List Value×List Seg) [3,11,12] (fun ⟨k,vs,ms⟩=>[(13,.int .i64 (k:Int))]) (fun ⟨k,vs,ms⟩=>[[(b9,blk vs 25)],ms.flatten,[(b1,blk [.int .i64 (n:Int),.slice A l.length cap] 24)]]) (fun ⟨k,vs,ms⟩=>k≤l.length∧RowsI 3 (iQ n (l.take k)) vs ms) (fun ⟨k,vs,ms⟩=>l.length - k) (0,List.replicate n (.slice none 0 0),List.replicate n []) ?_ ?_ ?_ ?_
 · exact aF
 · dsimp only
   rw [show (List.replicate n ([]:Seg)).flatten=[] from by simp];exact aC
 · exact ⟨aA,by rw [List.take_zero,rawRows_nil];exact RowsI.start _ n⟩
 ·
  rintro ⟨k,vs,ms⟩ ⟨bw,hR⟩;refine aG fun kh5=>aB 1 rfl<|aD kh5<|aV fun kh6=>aX rfl (fun bk=>?_) (fun bk=>?_)
  ·
   refine bZ kh6<|aV fun kh7=>aS<|aG fun kh8=>?_
   have hk:k<l.length:=aA
   obtain ⟨bl,off,rfl,hS,hc⟩:=hr (fH cH dO aA hk)
   have br:=bh k hk
   refine f_Q (aM j7 rfl rfl (off+k*3))<|f_Q (aQ (vs:=cH l[k]) Tryz.isAgg69 Tryz.sizeOf69 rfl rfl (gV dO hS hc hk))<|f_S (cX Tryz.zeroValue69 rfl fun b5=>?_)
   refine f_Z (bS Tryz.sizeOf69 rfl rfl rfl rfl cG (cH l[k]) rfl ?_);refine aD kh8<|aG fun kh9=>cN gC rfl<|c7 Tryz.isAgg3 rfl (rdA rfl)<|cN fT rfl<|c7 Tryz.isAgg3 rfl (rdA rfl)<|aB 1 rfl<|aD kh9<|aX rfl (fun c21=>?_) (fun c21=>?_)
   ·
    refine aV fun aq=>?_;obtain ⟨s,hs,bj⟩:∃ s:Nat,l[k].src=(s:Int)∧s<n:=⟨l[k].src.toNat,aA,aA⟩
    obtain ⟨d,hd,az⟩:∃ d:Nat,l[k].dst=(d:Int)∧d<n:=⟨l[k].dst.toNat,aA,aA⟩
    have am:s≠d:=aA
    obtain ⟨rv,rm,rG,ap,ah,ar,ag⟩:=hR.split (i:=s) (by rw [iK];exact bj)
    rw [jB] at ah;have ai:=qL (s:Int) (l.take k)
    rw [List.length_take] at ai;obtain ⟨rl,ab⟩:∃ rl,rl=(l.take k).flatMap (nbr (s:Int)):=⟨_,rfl⟩
    rw [← ab] at ah ai;obtain ⟨Ar,cr,rfl,a1⟩:=ah.val
    refine eP (Sub.splitF ar)<|cQ [[(b5,blk (cH l[k]) 69)]] rfl<|f_T 0 rfl (aR rfl)<|f_T 1 rfl (aT gC rfl)<|f_T 2 rfl (aH Tryz.isAgg3 rfl (rdA rfl))<|f_T 3 rfl (aR rfl)<|f_T 4 rfl (aT gC rfl)<|f_T 5 rfl (aH Tryz.isAgg3 rfl (rdA rfl))<|f_T 6 rfl (aM g5 rfl rfl (s))<|f_T 8 rfl (aT fT rfl) ?_;refine f_T 9 rfl (aH Tryz.isAgg3 rfl (rdA rfl))<|gD 7 10 rfl rfl aU rfl rfl rfl rfl rfl rfl ?_ ?_
    ·
     refine (aH Tryz.isAgg25 rfl (rdA ap)).does ⟨aC,?_⟩;refine f_O 10 rfl (bX eO aA rfl rfl rfl fun bg=>⟨aC,?_⟩);refine f_O 11 rfl (dJ eO rfl rfl ah (ys:=[.int .i64 l[k].dst]) ⟨(rdA rfl),trivial⟩ rfl rfl aA aA fun bc al ak=>⟨aC,?_⟩);obtain ⟨ad,F,rfl,_⟩:=ak.val
     refine f_T 12 rfl (aM g5 rfl rfl (s))<|fX 13 rfl (bQ Tryz.sizeOf25 rfl rfl rfl rfl (by have:=hR.lv;rw [iK] at this;omega) (vs.set s (.slice ad (rl.length+1) F)) rfl ⟨aC,?_⟩)
     refine cO aU<|bP aq<|eP (Sub.joinF (m:=al) (G' :=rG) (ag _ _ _ (by rw [← gK];exact ak)).2) ?_
     obtain ⟨bq,ba,an,aj,X,ao,O⟩:=(ag _ _ _ (by rw [← gK];exact ak)).1.split (i:=d) (by rw [List.length_set,iK];exact az)
     rw [List.getElem_set_ne am,jB] at X;have Z:=qL (d:Int) (l.take k)
     rw [List.length_take] at Z;obtain ⟨aa,U⟩:∃ aa,aa=(l.take k).flatMap (nbr (d:Int)):=⟨_,rfl⟩
     rw [← U] at X Z;obtain ⟨a2,bp,rfl,ay⟩:=X.val
     refine eP (Sub.splitF ao)<|cQ [[(b5,blk (cH l[k]) 69)]] rfl<|f_T 0 rfl (aR rfl)<|f_T 1 rfl (aT fT rfl)<|f_T 2 rfl (aH Tryz.isAgg3 rfl (rdA rfl))<|f_T 3 rfl (aR rfl)<|f_T 4 rfl (aT fT rfl)<|f_T 5 rfl (aH Tryz.isAgg3 rfl (rdA rfl))<|f_T 6 rfl (aM g5 rfl rfl (d))<|f_T 8 rfl (aT gC rfl) ?_;refine f_T 9 rfl (aH Tryz.isAgg3 rfl (rdA rfl))<|gD 7 10 rfl rfl aU rfl rfl rfl rfl rfl rfl ?_ ?_
     ·
      refine (aH Tryz.isAgg25 rfl (rdA aj)).does ⟨aC,?_⟩;refine f_O 10 rfl (bX eO aA rfl rfl rfl fun aw=>⟨aC,?_⟩);refine f_O 11 rfl (dJ eO rfl rfl X (ys:=[.int .i64 l[k].src]) ⟨(rdA rfl),trivial⟩ rfl rfl aA aA fun v46 ae Y=>⟨aC,?_⟩);obtain ⟨ac,J,rfl,_⟩:=Y.val
      refine f_T 12 rfl (aM g5 rfl rfl (d))<|fX 13 rfl (bQ Tryz.sizeOf25 rfl rfl rfl rfl (by have:=hR.lv;rw [iK] at this;rw [List.length_set];omega) ((vs.set s (.slice ad (rl.length+1) F)).set d (.slice ac (aa.length+1) J)) rfl ⟨aC,?_⟩)
      refine cO aU<|dI<|bP kh7<|aI<|f_Q (bF rfl rfl)<|aB 1 rfl<|aY<|gN (Sub.joinF (m:=ae) (G' :=an) (O _ _ _ (by rw [← gK];exact Y)).2) ?_
      refine cV (a6 (k+1,(vs.set s (.slice ad (rl.length+1) F)).set d (.slice ac (aa.length+1) J),(ms.set s al).set d ae) (by first|omega|(dsimp only;omega)|(simp;omega)) ⟨aA,by have:=(O _ _ _ (by rw [← gK];exact Y)).1;rw [ab,U,oF hk hs hd am] at this;rw [ab,U];exact this⟩ ?_ ?_ ?_)
      · exact aF
      · exact aF
      · exact aC
     ·
      refine (bX eO aA rfl rfl rfl fun aw=>⟨aC,?_⟩);refine f_O 7 rfl ((aH Tryz.isAgg25 rfl (rdA aj)).does ⟨aC,?_⟩);refine f_O 11 rfl (dJ eO rfl rfl X (ys:=[.int .i64 l[k].src]) ⟨(rdA rfl),trivial⟩ rfl rfl aA aA fun v46 ae Y=>⟨aC,?_⟩);obtain ⟨ac,J,rfl,_⟩:=Y.val
      refine f_T 12 rfl (aM g5 rfl rfl (d))<|fX 13 rfl (bQ Tryz.sizeOf25 rfl rfl rfl rfl (by have:=hR.lv;rw [iK] at this;rw [List.length_set];omega) ((vs.set s (.slice ad (rl.length+1) F)).set d (.slice ac (aa.length+1) J)) rfl ⟨aC,?_⟩)
      refine cO aU<|dI<|bP kh7<|aI<|f_Q (bF rfl rfl)<|aB 1 rfl<|aY<|gN (Sub.joinF (m:=ae) (G' :=an) (O _ _ _ (by rw [← gK];exact Y)).2) ?_
      refine cV (a6 (k+1,(vs.set s (.slice ad (rl.length+1) F)).set d (.slice ac (aa.length+1) J),(ms.set s al).set d ae) (by first|omega|(dsimp only;omega)|(simp;omega)) ⟨aA,by have:=(O _ _ _ (by rw [← gK];exact Y)).1;rw [ab,U,oF hk hs hd am] at this;rw [ab,U];exact this⟩ ?_ ?_ ?_)
      · exact aF
      · exact aF
      · exact aC
    ·
     refine (bX eO aA rfl rfl rfl fun bg=>⟨aC,?_⟩);refine f_O 7 rfl ((aH Tryz.isAgg25 rfl (rdA ap)).does ⟨aC,?_⟩);refine f_O 11 rfl (dJ eO rfl rfl ah (ys:=[.int .i64 l[k].dst]) ⟨(rdA rfl),trivial⟩ rfl rfl aA aA fun bc al ak=>⟨aC,?_⟩);obtain ⟨ad,F,rfl,_⟩:=ak.val
     refine f_T 12 rfl (aM g5 rfl rfl (s))<|fX 13 rfl (bQ Tryz.sizeOf25 rfl rfl rfl rfl (by have:=hR.lv;rw [iK] at this;omega) (vs.set s (.slice ad (rl.length+1) F)) rfl ⟨aC,?_⟩)
     refine cO aU<|bP aq<|eP (Sub.joinF (m:=al) (G' :=rG) (ag _ _ _ (by rw [← gK];exact ak)).2) ?_
     obtain ⟨bq,ba,an,aj,X,ao,O⟩:=(ag _ _ _ (by rw [← gK];exact ak)).1.split (i:=d) (by rw [List.length_set,iK];exact az)
     rw [List.getElem_set_ne am,jB] at X;have Z:=qL (d:Int) (l.take k)
     rw [List.length_take] at Z;obtain ⟨aa,U⟩:∃ aa,aa=(l.take k).flatMap (nbr (d:Int)):=⟨_,rfl⟩
     rw [← U] at X Z;obtain ⟨a2,bp,rfl,ay⟩:=X.val
     refine eP (Sub.splitF ao)<|cQ [[(b5,blk (cH l[k]) 69)]] rfl<|f_T 0 rfl (aR rfl)<|f_T 1 rfl (aT fT rfl)<|f_T 2 rfl (aH Tryz.isAgg3 rfl (rdA rfl))<|f_T 3 rfl (aR rfl)<|f_T 4 rfl (aT fT rfl)<|f_T 5 rfl (aH Tryz.isAgg3 rfl (rdA rfl))<|f_T 6 rfl (aM g5 rfl rfl (d))<|f_T 8 rfl (aT gC rfl) ?_;refine f_T 9 rfl (aH Tryz.isAgg3 rfl (rdA rfl))<|gD 7 10 rfl rfl aU rfl rfl rfl rfl rfl rfl ?_ ?_
     ·
      refine (aH Tryz.isAgg25 rfl (rdA aj)).does ⟨aC,?_⟩;refine f_O 10 rfl (bX eO aA rfl rfl rfl fun aw=>⟨aC,?_⟩);refine f_O 11 rfl (dJ eO rfl rfl X (ys:=[.int .i64 l[k].src]) ⟨(rdA rfl),trivial⟩ rfl rfl aA aA fun v46 ae Y=>⟨aC,?_⟩);obtain ⟨ac,J,rfl,_⟩:=Y.val
      refine f_T 12 rfl (aM g5 rfl rfl (d))<|fX 13 rfl (bQ Tryz.sizeOf25 rfl rfl rfl rfl (by have:=hR.lv;rw [iK] at this;rw [List.length_set];omega) ((vs.set s (.slice ad (rl.length+1) F)).set d (.slice ac (aa.length+1) J)) rfl ⟨aC,?_⟩)
      refine cO aU<|dI<|bP kh7<|aI<|f_Q (bF rfl rfl)<|aB 1 rfl<|aY<|gN (Sub.joinF (m:=ae) (G' :=an) (O _ _ _ (by rw [← gK];exact Y)).2) ?_
      refine cV (a6 (k+1,(vs.set s (.slice ad (rl.length+1) F)).set d (.slice ac (aa.length+1) J),(ms.set s al).set d ae) (by first|omega|(dsimp only;omega)|(simp;omega)) ⟨aA,by have:=(O _ _ _ (by rw [← gK];exact Y)).1;rw [ab,U,oF hk hs hd am] at this;rw [ab,U];exact this⟩ ?_ ?_ ?_)
      · exact aF
      · exact aF
      · exact aC
     ·
      refine (bX eO aA rfl rfl rfl fun aw=>⟨aC,?_⟩);refine f_O 7 rfl ((aH Tryz.isAgg25 rfl (rdA aj)).does ⟨aC,?_⟩);refine f_O 11 rfl (dJ eO rfl rfl X (ys:=[.int .i64 l[k].src]) ⟨(rdA rfl),trivial⟩ rfl rfl aA aA fun v46 ae Y=>⟨aC,?_⟩);obtain ⟨ac,J,rfl,_⟩:=Y.val
      refine f_T 12 rfl (aM g5 rfl rfl (d))<|fX 13 rfl (bQ Tryz.sizeOf25 rfl rfl rfl rfl (by have:=hR.lv;rw [iK] at this;rw [List.length_set];omega) ((vs.set s (.slice ad (rl.length+1) F)).set d (.slice ac (aa.length+1) J)) rfl ⟨aC,?_⟩)
      refine cO aU<|dI<|bP kh7<|aI<|f_Q (bF rfl rfl)<|aB 1 rfl<|aY<|gN (Sub.joinF (m:=ae) (G' :=an) (O _ _ _ (by rw [← gK];exact Y)).2) ?_
      refine cV (a6 (k+1,(vs.set s (.slice ad (rl.length+1) F)).set d (.slice ac (aa.length+1) J),(ms.set s al).set d ae) (by first|omega|(dsimp only;omega)|(simp;omega)) ⟨aA,by have:=(O _ _ _ (by rw [← gK];exact Y)).1;rw [ab,U,oF hk hs hd am] at this;rw [ab,U];exact this⟩ ?_ ?_ ?_)
      · exact aF
      · exact aF
      · exact aC
   ·
    refine dZ<|dI<|bP kh7<|aI<|f_Q (bF rfl rfl)<|aB 1 rfl<|aY ?_
    refine cV (a6 (k+1,vs,ms) (by first|omega|(dsimp only;omega)|(simp;omega)) ⟨aA,by rw [rawRows_same hk (by simpa using c21)];exact hR⟩ ?_ ?_ ?_)
    · exact aF
    · exact aF
    · exact aC
  ·
   refine cS<|cU<|cU<|eH<|bP kh3<|aV fun kh11=>aV fun ax=>?_
   obtain rfl:k=l.length:=aA
   rw [List.take_length] at hR;refine aI<|aB 1 rfl<|dY g5 rfl<|aB 1 rfl<|aD ax<|aS ?_
   refine dF (α:=Nat×List Value×List Seg) [3,50] (fun ⟨j,vs,ms⟩=>[(51,.int .i64 (j:Int))]) (fun ⟨j,vs,ms⟩=>[[(b9,blk vs 25)],ms.flatten]) (fun ⟨j,vs,ms⟩=>j≤n∧RowsI 3 (j1 n l j) vs ms) (fun ⟨j,vs,ms⟩=>n - j) (0,vs,ms) ?_ ?_ ?_ ?_
   · exact aF
   · exact aC
   · exact ⟨aA,by rw [mixRows_zero];exact hR⟩
   ·
    rintro ⟨j,vs,ms⟩ ⟨bt,hR⟩;refine fJ (e:=[(51,_),(3,_),(50,_)]) aF ?_;refine aG fun kh13=>aB 1 rfl<|aD kh13<|aV fun kh14=>aX rfl (fun bi=>?_) (fun bi=>?_)
    ·
     refine bZ kh14<|aV fun kh15=>aS<|aG fun kh16=>aB 2 rfl<|aD kh16<|aV fun kh17=>?_
     have hj:j<n:=aA
     obtain ⟨rv,rm,rG,ap,ah,ar,ag⟩:=hR.split (i:=j) (by rw [mixRows_len];exact hj)
     rw [oI,if_neg aA] at ah;have ai:=qL (j:Int) l
     obtain ⟨rl,ab⟩:∃ rl,rl=l.flatMap (nbr (j:Int)):=⟨_,rfl⟩
     rw [← ab] at ah ai;obtain ⟨Ar,cr,rfl,a1⟩:=ah.val
     refine eP (Sub.splitF ar)<|aI<|aB 2 rfl<|f_Q (aM g5 rfl rfl (j))<|f_Q (aH Tryz.isAgg25 rfl (rdA ap)) ?_;refine f_S (d5 [rm] _ Tryz.call22 rfl (aL Sub.refl) (fun w_ av=>lZ Ar cr rl rm w_ ah aA av.owns) ?_);rintro _ _ ⟨rfl,m2,rfl,bf⟩;dsimp only [aK,aJ];refine aD kh17<|aI<|aB 4 rfl<|f_Q (aM g5 rfl rfl (j))<|f_Q (aH Tryz.isAgg25 rfl (rdA ap)) ?_
     refine f_S (d5 [m2] _ Tryz.call24 rfl (aL Sub.refl) (fun w_ av=>(by have h:=nB Ar cr (iU rl) m2 w_ (by rw [fP];exact bf) (by rw [fP];omega) av.owns;rw [fP] at h;exact h)) ?_);rintro bv _ ⟨m3,rfl,au⟩;obtain ⟨A3,c3,rfl,bu⟩:=au.val
     dsimp only [aK,aJ];refine f_Q (aM g5 rfl rfl (j))<|f_Z (bQ Tryz.sizeOf25 rfl rfl rfl rfl (by have:=hR.lv;rw [mixRows_len] at this;omega) (vs.set j (.slice A3 (cpt (iU rl)).length c3)) rfl ?_)
     refine aY<|dI<|bP kh15<|aI<|f_Q (bF rfl rfl)<|aB 1 rfl<|aY<|gN (Sub.joinF (m:=m3) (G' :=rG) (ag _ _ _ au).2) ?_
     refine cV (a6 (j+1,vs.set j (.slice A3 (cpt (iU rl)).length c3),ms.set j m3) (by first|omega|(dsimp only;omega)|(simp;omega)) ⟨aA,by have:=(ag _ _ _ au).1;rw [ab,mixRows_next] at this;rw [ab];exact this⟩ ?_ ?_ ?_)
     · exact aF
     · exact aF
     · exact aC
    ·
     refine cS<|cU<|cU<|eH<|bP kh11<|aV fun kh18=>?_
     obtain rfl:j=n:=aA
     rw [mixRows_all] at hR;refine aI<|aB 2 rfl<|aD kh18<|aZ ?_
     exact bO [[(b9,blk vs 25)],ms.flatten] Tryz.results168 rfl (by repeat (first|exact aP|refine aL ?_|refine bV rfl ?_)) ⟨b9,vs,ms,rfl,rfl,hR⟩
end Go.Proofs.YthpkelafioikaaaGreat
namespace Go.Proofs.YthpkelafioikaaaGreat.Fly
open Go Go.RowKit
set_option linter.unusedVariables false
set_option linter.unusedSimpArgs false
set_option linter.unusedSectionVars false
abbrev FW (rd:Option Nat):Fence:={ fn:=fun _=>True,depth:=none,alive:=false,round:=rd }
abbrev coll (mk:List Nat):List Deferred:=mk.map fun D=>{ target:= .collected D,args:= #[] }
abbrev mks (mk:List Nat):Seg:=mk.map fun D=>(D,Obj.deferred (some []))
structure EnR (n:Nat) (mk:List Nat) (env:Env) (a:Act):Prop where
 size:a.tmps.size=n
 defers:a.defers=coll mk
 get:∀ t v,look env t=some v→a.tmps[t]? =some v
theorem oM (a:Act) (F:List Deferred):({ a with defers:=F }:Act).eval=a.eval:=by funext x;cases x<;>rfl
section
variable {n:Nat} {mk:List Nat} {env:Env} {a:Act}
theorem EnR.base (h:EnR n mk env a):En n env { a with defers:=[] }:=⟨h.size,rfl,h.get⟩
theorem EnR.eval (h:EnR n mk env a) {x:Operand} {v:Value} (hx:ev env x=some v):a.eval x=v:=by
 have:=h.base.eval hx;rwa [oM] at this
theorem EnR.evals (h:EnR n mk env a) {l:List Operand} {vs:List Value} (hx:evs env l=some vs):l.map a.eval=vs:=by
 have:=h.base.evals hx;rwa [oM] at this
theorem EnR.put (h:EnR n mk env a) {d:Nat} (hd:Nat.blt d n=true) (v:Value):EnR n mk ((d,v)::env) (a.put (some d) v):=by
 have:=h.base.put hd v
 exact ⟨this.size,by simp [Act.put,h.defers],this.get⟩
theorem EnR.none (h:EnR n mk env a) (v:Value):EnR n mk env (a.put none v):=by simpa [Act.put] using h
theorem EnR.also (h:EnR n mk env a) {t:Nat} {v:Value} (hl:look env t=some v):EnR n mk ((t,v)::env) a:=by
 have:=h.base.also hl
 exact ⟨h.size,h.defers,this.get⟩
theorem EnR.keep (h:EnR n mk env a) (ts:List Nat):EnR n mk (Fly.keep ts env) a:=⟨h.size,h.defers,(h.base.keep ts).get⟩
theorem EnR.agree {e' :Env} (h:EnR n mk env a) {ts:List Nat} (hk:Agree ts env e'):EnR n mk (Fly.keep ts e') a:=⟨h.size,h.defers,(h.base.agree hk).get⟩
theorem EnR.has {b:Env} (h:EnR n mk env a) (hb:EnR n mk b a) {l:Env} (hl:Has env l):EnR n mk (l++b) a:=⟨h.size,h.defers,(h.base.has hb.base hl).get⟩
end
def nQ:Op→Bool
 | .defer _=>false
 |_=>true
section
variable (P:Program) (n:Nat) (S:Nat→Prop) (w0:World) (rd:Option Nat) (mk:List Nat)
def WqR (R:Act→World→Prop) (env:Env) (segs:List Seg):Prop:=∀ a w,EnR n mk env a→Hp S w0 segs.flatten w→R a w
def WcR (Q:Exit→Act→World→Prop) (env:Env) (segs:List Seg) (c:Code):Prop:=∀ a w,EnR n mk env a→Hp S w0 segs.flatten w→c.wpIn (FW rd) 0 P Q a w
def WlR (ops:Array Oper) (Q:Exit→Act→World→Prop) (env:Env) (segs:List Seg) (l:List Oper):Prop:=
 ∀ a w,EnR n mk env a→Hp S w0 segs.flatten w→wpListIn (FW rd) 0 P ops Q l a w
def DoesR (env:Env) (segs:List Seg) (o:Oper) (K:Value→List Seg→Prop):Prop:=
 ∀ a w (next:Act→World→Prop) (Q:Exit→Act→World→Prop),EnR n mk env a→Hp S w0 segs.flatten w→
  (∀ v segs' w',K v segs'→Hp S w0 segs'.flatten w'→next (a.put o.dst v) w')→o.wpIn (FW rd) 0 P a w next Q
end
theorem wpIn_loop_ghost {F:Fence} {m:Nat} {P:Program} {Q:Exit→Act→World→Prop} {a:Act} {w:World} {c:Code} (I:Nat→Act→World→Prop) (J:Nat) (X:I J a w)
  (round:∀ n a w,I n a w→c.wpIn F m P (Exit.then (fun Y w' =>∃ U,U<n∧I U Y w') Q) a w):(Code.loop c).wpIn F m P Q a w:=by
 refine wpIn_loop (fun a w=>∃ n,I n a w) (fun a w=>leastOf (fun n=>I n a w)) ⟨J,X⟩ ?_;intro a w Z;refine wpIn_mono (round _ a w (leastOf_spec Z).1) ?_;intro e Y w' hq
 cases e with
 |normal=>
  obtain ⟨U,hlt,O⟩:=hq
  exact show (∃ n,I n Y w')∧leastOf (fun n=>I n Y w')<leastOf (fun n=>I n a w) from ⟨⟨U,O⟩,Nat.lt_of_le_of_lt ((leastOf_spec ⟨U,O⟩).2 U O) hlt⟩
 |exit id=>exact hq
 |goto l=>exact hq
 |ret=>exact hq
 |panic ch=>exact hq
 |outgrown=>exact hq
section
variable {P:Program} {n:Nat} {S:Nat→Prop} {w0:World} {rd:Option Nat} {mk:List Nat} {env:Env} {segs:List Seg} {Q:Exit→Act→World→Prop} {ops:Array Oper} {rest:List Oper} {o:Oper}
theorem nM (a:Act) (F:List Deferred) (d:Option Tmp) (v:Value):({ ({ a with defers:=[] }:Act).put d v with defers:=a.defers }:Act)=a.put d v:=by cases d<;>rfl
theorem Does.toR {K:Value→List Seg→Prop} (hn:nQ o.op=true) (h:Does P n S w0 env segs o K):DoesR P n S w0 rd mk env segs o K:=by
 intro a w next Q ha hp hk
 have F:=h { a with defers:=[] } w (fun Y w' =>Y.defers=[]∧next { Y with defers:=a.defers } w') (fun _ _ _=>False) ha.base hp
  (fun v segs' w' Z X=>⟨by cases o.dst<;>rfl,by rw [nM a []];exact hk v segs' w' Z X⟩)
 unfold Oper.wp at F
 unfold Oper.wpIn
 refine ⟨fun _ _=>trivial,?_⟩;rw [Oper.semAt_eq _ _ _ (fun c hc=>by rw [hc] at hn;cases hn)];rw [oM] at F
 generalize (execOp a.eval o).run P w=r at F ⊢
 cases r with
 |halt hh w' =>
  cases hh<;>simp only [Oper.upon] at F
 |ok x w' =>
  cases x with
  |value v=>
   have:=F.2
   rw [nM a []] at this;exact this
  |skip=>
   have:=F.2
   rw [nM a []] at this;exact this
  |defer d=>
   have:=F.1
   cases hd:o.dst<;>simp [Act.put,hd] at this
  |enter f args=>
   have h1:Calls P f args w' _:=F
   refine ⟨(fun h=>by cases h),?_⟩
   show CallsIn Fence.wide 0 P f args w' _
   refine callsIn_wide.2 (Calls.mono h1 ?_);intro e O he
   cases e with
   |returned v=>
    have:=he.2
    rw [nM a []] at this;exact this
   |panicked ch=>exact he.elim
   |outgrown=>obtain ⟨_,_,hf⟩:=he;exact hf.elim
  |row r args=>
   have h1:Rows P r args w' _:=F
   refine ⟨(fun h=>by cases h),fun c cs _=>?_⟩;obtain ⟨v,O,hv,U⟩:=h1 c cs
   have J:=hv.2
   rw [nM a []] at J;exact ⟨v,O,J,(stepsIn_wide (P:=P)).2 U⟩
  |round l f tmps assign body=>exact F.elim
  |_=>exact F.elim
theorem fS {d:Nat} (hg:o.guard=none) (hd:o.dst=some d) (hn:Nat.blt d n=true)
  (h:DoesR P n S w0 rd mk env segs o fun v segs' =>WlR P n S w0 rd mk ops Q ((d,v)::env) segs' rest):WlR P n S w0 rd mk ops Q env segs (o::rest):=by
 intro a w ha hp;refine wpListIn_plain hg fun K J=>h a w K Q ha hp fun v segs' w' hk F=>J _ _ (hk _ _ ?_ F);rw [hd];exact ha.put hn v
theorem kW (hg:o.guard=none) (hd:o.dst=none)
  (h:DoesR P n S w0 rd mk env segs o fun _ segs' =>WlR P n S w0 rd mk ops Q env segs' rest):WlR P n S w0 rd mk ops Q env segs (o::rest):=by
 intro a w ha hp;refine wpListIn_plain hg fun K J=>h a w K Q ha hp fun v segs' w' hk F=>J _ _ (hk _ _ ?_ F);rw [hd];exact ha.none v
theorem aN {d:Nat} {v:Value} (hg:o.guard=none) (hd:o.dst=some d) (hn:Nat.blt d n=true) (F:nQ o.op=true) (hp:Pure P n S w0 env segs o v)
  (h:WlR P n S w0 rd mk ops Q ((d,v)::env) segs rest):WlR P n S w0 rd mk ops Q env segs (o::rest):=
 fS hg hd hn (Does.toR F (hp.does h))
theorem pF {d j t:Nat} {b:Bool} {v:Value} (hg:o.guard=some (j,b)) (hj:(ops[j]?).bind (·.dst)=some t) (hl:look env t=some (.bool b)) (hd:o.dst=some d) (hn:Nat.blt d n=true) (J:nQ o.op=true) (hp:Pure P n S w0 env segs o v)
  (h:WlR P n S w0 rd mk ops Q ((d,v)::env) segs rest):WlR P n S w0 rd mk ops Q env segs (o::rest):=by
 intro a w ha hh;refine wpListIn_step fun K O=>?_;rw [if_pos (by simp [Region.wanted,hg,yielded,hj,ha.get _ _ hl])];exact (Does.toR J (hp.does (K:=fun u segs' =>u=v∧segs' =segs) ⟨rfl,rfl⟩):DoesR P n S w0 rd mk env segs o _) a w K Q ha hh fun u segs' w' ⟨U,hs⟩ F=>O _ _ (h _ _ (by rw [hd,U];exact ha.put hn v) (hs▸F))
theorem r_stepN {d j t:Nat} {b c:Bool} (hg:o.guard=some (j,b)) (hj:(ops[j]?).bind (·.dst)=some t) (hl:look env t=some (.bool c)) (hc:(c==b)=false) (hd:o.dst=some d) (hn:Nat.blt d n=true)
  (h:WlR P n S w0 rd mk ops Q ((d,undef)::env) segs rest):WlR P n S w0 rd mk ops Q env segs (o::rest):=by
 intro a w ha hp;refine wpListIn_step fun K J=>?_;have F:c≠b:=by simpa using hc
 rw [if_neg (by simp [Region.wanted,hg,yielded,hj,ha.get _ _ hl,F])];refine ⟨fun _ _=>trivial,J _ _ (h _ _ ?_ hp)⟩;rw [hd];exact ha.put hn undef
theorem dM (h:WqR n S w0 mk (Q .normal) env segs):WlR P n S w0 rd mk ops Q env segs []:=fun a w ha hp=>wpListIn_nil (h a w ha hp)
theorem cA {id:Nat} {l:List Oper} (h:WlR P n S w0 rd mk l.toArray Q env segs l):WcR P n S w0 rd mk Q env segs (.region id l.toArray false):=
 fun a w ha hp=>wpIn_region_lit (h a w ha hp)
theorem r_old {c:Code} (h:Wc P n S w0 Q env segs c):WcR P n S w0 none [] Q env segs c:=
 fun a w ha hp=>wpIn_wide.2 (h a w ⟨ha.size,ha.defers,ha.get⟩ hp)
theorem r_new {R:Act→World→Prop} (h:WqR n S w0 [] R env segs):Wq n S w0 R env segs:=fun a w ha hp=>h a w ⟨ha.size,ha.defers,ha.get⟩ hp
theorem r_splitL (t:Nat) {F:Prop} [Decidable F] {l:List Oper} (hl:look env t=some (.bool (decide F)))
  (hy:F→WlR P n S w0 rd mk ops Q ((t,.bool true)::env) segs l) (hn:¬ F→WlR P n S w0 rd mk ops Q ((t,.bool false)::env) segs l):WlR P n S w0 rd mk ops Q env segs l:=by
 intro a w ha hp
 by_cases h:F
 ·refine hy h a w (ha.also ?_) hp
  rw [hl,decide_eq_true h]
 ·refine hn h a w (ha.also ?_) hp
  rw [hl,decide_eq_false h]
theorem r_envC {e:Env} {c:Code} (he:Has env e) (h:WcR P n S w0 rd mk Q e segs c):WcR P n S w0 rd mk Q env segs c:=
 fun a w ha hp=>h a w (by
  have F:EnR n mk [] a:=⟨ha.size,ha.defers,fun t v hx=>by simp [look] at hx⟩
  have:=ha.has F he
  rwa [List.append_nil] at this) hp
theorem r_subC {out:List Seg} {c:Code} (hs:Sub segs out) (h:WcR P n S w0 rd mk Q env out c):WcR P n S w0 rd mk Q env segs c:=fun a w ha hp=>h a w ha (hp.sub hs)
theorem r_subQ {out:List Seg} {R:Act→World→Prop} (hs:Sub segs out) (h:WqR n S w0 mk R env out):WqR n S w0 mk R env segs:=fun a w ha hp=>h a w ha (hp.sub hs)
theorem dW {x y:Code} (h:∀ K:Act→World→Prop,(∀ env segs mk,WcR P n S w0 rd mk Q env segs y→WqR n S w0 mk K env segs)→WcR P n S w0 rd mk (Exit.then K Q) env segs x):
  WcR P n S w0 rd mk Q env segs (.seq x y):=
 fun a w ha hp=>wpIn_seq (h (y.wpIn (FW rd) 0 P Q) (fun _ _ _ hy O w' J F=>hy O w' J F) a w ha hp)
theorem kM {c:Operand} {x y:Code} {F:Prop} [Decidable F] (hc:ev env c=some (.bool (decide F))) (J:F→WcR P n S w0 rd mk Q env segs x) (hf:¬ F→WcR P n S w0 rd mk Q env segs y):
  WcR P n S w0 rd mk Q env segs (.cond c x y):=by
 intro a w ha hp;have he:=ha.eval hc
 by_cases h:F
 ·exact wpIn_cond_true (by rw [he,decide_eq_true h]) (J h a w ha hp)
 ·exact wpIn_cond_false (by rw [he,decide_eq_false h]) (hf h a w ha hp)
theorem r_condN {c:Operand} {x y:Code} {F:Prop} [Decidable F] (hc:ev env c=some (.bool (decide F))) (h:¬ F) (hf:WcR P n S w0 rd mk Q env segs y):WcR P n S w0 rd mk Q env segs (.cond c x y):=
 fun a w ha hp=>wpIn_cond_false ((ha.eval hc).trans (by rw [decide_eq_false h])) (hf a w ha hp)
theorem r_condT {c:Operand} {x y:Code} (hc:ev env c=some (.bool true)) (F:WcR P n S w0 rd mk Q env segs x):WcR P n S w0 rd mk Q env segs (.cond c x y):=
 fun a w ha hp=>wpIn_cond_true (ha.eval hc) (F a w ha hp)
theorem r_condB {c:Operand} {x y:Code} {b:Bool} (hc:ev env c=some (.bool b)) (F:b=true→WcR P n S w0 rd mk Q env segs x) (hf:b=false→WcR P n S w0 rd mk Q env segs y):
  WcR P n S w0 rd mk Q env segs (.cond c x y):=by
 intro a w ha hp;have he:=ha.eval hc
 cases b
 ·exact wpIn_cond_false he (hf rfl a w ha hp)
 ·exact wpIn_cond_true he (F rfl a w ha hp)
theorem f9 {id:Nat} {c:Code} (h:WcR P n S w0 rd mk (Exit.inBlock id Q) env segs c):WcR P n S w0 rd mk Q env segs (.block id c):=fun a w ha hp=>wpIn_block (h a w ha hp)
theorem iX (h:WqR n S w0 mk (Q .normal) env segs):WcR P n S w0 rd mk Q env segs .skip:=fun a w ha hp=>wpIn_skip (h a w ha hp)
theorem nL (h:WqR n S w0 mk (Q .ret) env segs):WcR P n S w0 rd mk Q env segs .ret:=fun a w ha hp=>wpIn_ret (h a w ha hp)
theorem lH {id:Nat} (h:WqR n S w0 mk (Q (.exit id)) env segs):WcR P n S w0 rd mk Q env segs (.exit id):=fun a w ha hp=>wpIn_exit (h a w ha hp)
theorem eB {K:Act→World→Prop} (h:WqR n S w0 mk K env segs):WqR n S w0 mk (Exit.then K Q .normal) env segs:=h
theorem r_tr {K:Act→World→Prop} (h:WqR n S w0 mk (Q .ret) env segs):WqR n S w0 mk (Exit.then K Q .ret) env segs:=h
theorem r_te {K:Act→World→Prop} {id:Nat} (h:WqR n S w0 mk (Q (.exit id)) env segs):WqR n S w0 mk (Exit.then K Q (.exit id)) env segs:=h
theorem r_bn {id:Nat} (h:WqR n S w0 mk (Q .normal) env segs):WqR n S w0 mk (Exit.inBlock id Q .normal) env segs:=h
theorem r_br {id:Nat} (h:WqR n S w0 mk (Q .ret) env segs):WqR n S w0 mk (Exit.inBlock id Q .ret) env segs:=h
theorem r_be {id:Nat} (h:WqR n S w0 mk (Q .normal) env segs):WqR n S w0 mk (Exit.inBlock id Q (.exit id)) env segs:=by
 intro a w ha hp;simpa [Exit.inBlock] using h a w ha hp
theorem r_bo {id F:Nat} (J:Nat.beq F id=false) (h:WqR n S w0 mk (Q (.exit F)) env segs):WqR n S w0 mk (Exit.inBlock id Q (.exit F)) env segs:=by
 intro a w ha hp;have:F≠id:=fun e=>by subst e;simp at J
 simpa [Exit.inBlock,this] using h a w ha hp
def AgainR {α:Type} (n:Nat) (S:Nat→Prop) (w0:World) (base:Env) (F:α→List Nat) (O:α→Env) (U:α→List Seg) (J:α→Prop) (X:α→Nat) (m:Nat) (a:Act) (w:World):Prop:=
 ∃ x,X x<m∧J x∧EnR n (F x) (O x++base) a∧Hp S w0 (U x).flatten w
theorem r_loop {α:Type} (F:α→List Nat) (ts:List Nat) (J:α→Env) (Y:α→List Seg) (O:α→Prop) (X:α→Nat) (U:α) {c:Code}
  (hm:F U=mk) (he:Has env (J U)) (hs:Sub segs (Y U)) (hi:O U)
  (round:∀ x,O x→WcR P n S w0 rd (F x) (Exit.then (AgainR n S w0 (keep ts env) F J Y O X (X x)) Q) (J x++keep ts env) (Y x) c):
  WcR P n S w0 rd mk Q env segs (.loop c):=by
 intro a w ha hp
 refine wpIn_loop_ghost (fun m a w=>∃ x,X x=m∧O x∧EnR n (F x) (J x++keep ts env) a∧Hp S w0 (Y x).flatten w) (X U)
  ⟨U,rfl,hi,hm▸ha.has (ha.keep ts) he,hp.sub hs⟩ ?_
 rintro m a' w' ⟨x,rfl,Z,aa,ab⟩;refine wpIn_mono (round x Z a' w' aa ab) ?_;intro e ac ad hq
 cases e with
 |normal=>
  obtain ⟨x',h1,h2,h3,h4⟩:=hq
  exact ⟨X x',h1,x',rfl,h2,h3,h4⟩
 |exit id=>exact hq
 |goto l=>exact hq
 |ret=>exact hq
 |panic ch=>exact hq
 |outgrown=>exact hq
theorem lP {α:Type} {J:α→List Nat} {ts:List Nat} {F:Env} {U:α→Env} {Y:α→List Seg} {O:α→Prop} {Z:α→Nat} {m:Nat} (x:α)
  (hm:Z x<m) (X:J x=mk) (hi:O x) (he:Has env (U x)) (hk:Agree ts env F) (hs:Sub segs (Y x)):
  WqR n S w0 mk (AgainR n S w0 (keep ts F) J U Y O Z m) env segs:=
 fun _ _ ha hp=>⟨x,hm,hi,X▸ha.has (ha.agree hk) he,hp.sub hs⟩
end
theorem r_meet {P:Program} {n:Nat} {S:Nat→Prop} {w0:World} {rd:Option Nat} {mk:List Nat} {env:Env} {segs:List Seg} {Q:Exit→Act→World→Prop} {α:Type} (ts:List Nat) (O:α→Env) (X:α→List Seg) (J:α→Prop) {x y:Code}
  (h1:∀ K:Act→World→Prop,(∀ env' segs' z,J z→Has env' (O z)→Agree ts env' env→Sub segs' (X z)→WqR n S w0 mk K env' segs')→WcR P n S w0 rd mk (Exit.then K Q) env segs x)
  (h2:∀ z,J z→WcR P n S w0 rd mk Q (O z++keep ts env) (X z) y):WcR P n S w0 rd mk Q env segs (.seq x y):=
 fun a w ha hp=>wpIn_seq (h1 (y.wpIn (FW rd) 0 P Q) (fun _ _ z hz he hk hs Y w' F U=>h2 z hz Y w' (F.has (F.agree hk) he) (U.sub hs)) a w ha hp)
theorem r_enter {P:Program} {f:FuncId} {fn:Func} {n:Nat} {args:List Value} {w:World} {own:List Seg} {Φ:Value→List Seg→Prop} {c:Code}
  (hf:P.funcs[f]? =some fn) (hb:fn.body=some c) (hn:fn.ntmps=n) (hl:Nat.ble args.length n=true) (ho:Owns w own)
  (h:WcR P n (Fr w own) w none [] (bodyPostM (FW none) 0 P fn (f5 w own Φ)) (initEnv 0 args) own c):Meets P f args w own Φ:=by
 have F:args.length≤n:=Nat.le_of_ble_eq_true hl
 refine (callsIn_wide (n:=0)).1 (show CallsIn (FW none) 0 P f args.toArray w _ from callsIn_of_wp_marks hf hb trivial (h _ _ ⟨?_,rfl,fun t v J=>?_⟩ (Hp.start ho)) rfl)
 ·simp [hn];omega
 ·have ⟨_,h2⟩:=qM args 0 t v J
  simp only [Nat.sub_zero] at h2;have hlt:t<args.length:=(List.getElem?_eq_some_iff.1 h2).1
  rw [Array.getElem?_append_left (by simpa using hlt)]
  simpa using h2
theorem Hp.putObj {S:Nat→Prop} {w0 w:World} {D:Nat} {o:Obj} {r:Seg} (o' :Obj) (h:Hp S w0 ((D,o)::r) w):Hp S w0 ((D,o')::r) (w.putObj D o'):=by
 have h' :Hp S w0 (([]:Seg)++(D,o)::r) w:=h
 have:=Hp.put (w' :=w.putObj D o') h' rfl rfl rfl aO (Nat.le_refl _) (World.putObj_heap_same (h.key_lt (o:=o) aO)) (fun k hk=>World.putObj_heap_other hk)
 exact this
theorem Hp.tailR {S:Nat→Prop} {w0 w:World} {x:Nat×Obj} {r:Seg} (h:Hp S w0 (x::r) w):Hp S w0 r w:=by
 have h' :Hp S w0 ([x]++r) w:=h
 exact (h'.perm List.perm_append_comm).left
theorem qN {P:Program} {fn:Func} {tmps:Array Value} {R:Ending→World→Prop} {S:Nat→Prop} {w0:World} {out:Seg}:
  ∀ (mk:List Nat) (w:World),Hp S w0 (mks mk++out) w→(∀ w',Hp S w0 out w'→∃ v,(results fn tmps).run P w' = .ok v w'∧R (.returned v) w')→LeavesInM (FW none) 0 P fn tmps R (coll mk) .returning w
 |[],w,hp,h=>by
  obtain ⟨v,h1,h2⟩:=h w hp
  exact ⟨v,h1,h2⟩
 |D::mk,w,hp,h=>by
  refine ⟨aO,.inl ⟨D,w.putObj D (.deferred none),rfl,run_takeDeferred (hp.own D _ aO),?_⟩⟩;exact qN mk _ (Hp.tailR (Hp.putObj (.deferred none) hp)) h
section
variable {P:Program} {fn:Func} {n:Nat} {w:World} {own:List Seg} {Φ:Value→List Seg→Prop} {env:Env} {segs:List Seg} {mk:List Nat}
theorem r_fin0 (own' :List Seg) (hr:fn.results= #[]) (hs:Sub segs (mks mk::own')) (F:Φ (.tuple #[]) own'):WqR n (Fr w own) w mk (bodyPostM (FW none) 0 P fn (f5 w own Φ) .ret) env segs:=fun a w' ha hp=>by
 show LeavesInM _ _ _ _ _ _ a.defers _ _
 rw [ha.defers];exact qN mk w' (out:=own'.flatten) (by simpa using hp.sub hs) fun O J=>⟨_,results_none hr _ _ _,_,own',rfl,J,F⟩
theorem r_fin0n (own' :List Seg) (hr:fn.results= #[]) (hs:Sub segs (mks mk::own')) (F:Φ (.tuple #[]) own'):WqR n (Fr w own) w mk (bodyPostM (FW none) 0 P fn (f5 w own Φ) .normal) env segs:=
 r_fin0 own' hr hs F
theorem lG (own' :List Seg) {r s:Tmp} {v u:Value} (hr:fn.results= #[.tmp r,.tmp s]) (hv:look env r=some v) (U:look env s=some u) (hs:Sub segs (mks mk::own')) (F:Φ (.tuple #[v,u]) own'):
  WqR n (Fr w own) w mk (bodyPostM (FW none) 0 P fn (f5 w own Φ) .ret) env segs:=fun a w' ha hp=>by
 show LeavesInM _ _ _ _ _ _ a.defers _ _
 rw [ha.defers];exact qN mk w' (out:=own'.flatten) (by simpa using hp.sub hs) fun O J=>⟨_,results_tmp2 hr _ _ _,_,own',rfl,J,by simp only [Array.getD_eq_getD_getElem?,ha.get _ _ hv,ha.get _ _ U];exact F⟩
end
theorem Hp.fz {S:Nat→Prop} {w0 w:World} {own fr:List Seg} (hp:Hp S w0 (own++fr).flatten w) (k:Nat) (hk:S k):Fr w own k∧w.heap[k]? =w0.heap[k]? :=by
 refine ⟨⟨Nat.lt_of_lt_of_le (hp.lt k hk) hp.size,fun hm=>?_⟩,hp.same k hk⟩;obtain ⟨⟨b',o⟩,hx,rfl⟩:=List.mem_map.1 hm
 rw [List.flatten_append] at hp;exact hp.out b' o (List.mem_append_left _ hx) hk
theorem rdG {S:Nat→Prop} {w0:World} {segs out:List Seg} {G:Seg} {b i:Nat} {cs:List Value} {T:TypeId} {v:Value} [pk:Pick segs G out] (F:(b,blk cs T)∈G) (hi:cs[i]? =some v):Rd S w0 segs b i v:=fun w hp=>by
 have hb:=hp.own b _ (pk.perm.symm.subset (List.mem_append_left _ F))
 simp [World.cell?,hb,hi]
theorem Sub.reg {segs out out' :List Seg} (h:Sub segs out) (e:out.flatten=out'.flatten):Sub segs out' :=by
 obtain ⟨rest,h⟩:=h;exact ⟨rest,by rw [← e];exact h⟩
theorem Sub.op2 {a m:Seg} {segs out parts:List Seg} (hm:m=parts.flatten) (h:Sub (a::(parts++segs)) out):Sub (a::m::segs) out:=by
 obtain ⟨rest,h⟩:=h
 exact ⟨rest,by subst hm;simpa using h⟩
theorem Sub.op3 {a b m:Seg} {segs out parts:List Seg} (hm:m=parts.flatten) (h:Sub (a::b::(parts++segs)) out):Sub (a::b::m::segs) out:=by
 obtain ⟨rest,h⟩:=h
 exact ⟨rest,by subst hm;simpa using h⟩
def YMeets (P:Program) (l:Nat) (args:List Value) (w:World) (own:List Seg) (Φ:Value→List Seg→Prop):Prop:=
 ∃ f tmps assign body,(Instr.yield l args.toArray).run P w= .ok (.round l f tmps assign body) w∧RoundIn (FW none) 0 P l f tmps assign body w (f5 w own Φ)
section
variable {P:Program} {n:Nat} {S:Nat→Prop} {w0:World} {rd:Option Nat} {mk:List Nat} {env:Env} {segs:List Seg} {K:Value→List Seg→Prop} {d:Option Tmp} {ty:TypeId} {pos:String} {af:Array Edge} {g:Option (Nat×Bool)}
theorem o_yield (own fr:List Seg) {l:Nat} {x:Operand} {args:List Operand} {U:Array TypeId} {vs:List Value} {Φ:Value→List Seg→Prop}
  (hx:ev env x=some (.func (.yield l) #[] #[])) (ha:evs env args=some vs) (F:Sub segs (own++fr)) (J:∀ w,Hp S w0 (own++fr).flatten w→YMeets P l vs w own Φ) (k:∀ v own',Φ v own'→K v (own' ++fr)):
  DoesR P n S w0 rd mk env segs ⟨d,.call ⟨.value x,args.toArray,U⟩,ty,pos,af,g⟩ K:=by
 intro a w next Q hE hp hk
 obtain ⟨f,tmps,assign,body,O,hR⟩:=J w (hp.sub F)
 unfold Oper.wpIn
 refine ⟨fun _ _=>trivial,?_⟩;rw [Oper.semAt_eq _ _ _ (fun c hc=>by cases hc)]
 have X:(execOp a.eval ⟨d,.call ⟨.value x,args.toArray,U⟩,ty,pos,af,g⟩).run P w= .ok (.round l f tmps assign body) w:=by
  simp [execOp,resolve,Deferred.ofValue,invoke,hE.eval hx,hE.evals ha,O]
 rw [X];refine ⟨(fun h=>by cases h),?_⟩
 show RoundIn (FW none) 0 P l f tmps assign body w _
 refine RoundIn.mono hR ?_;rintro e w' ⟨v,own',rfl,Y,Z⟩;exact hk v _ w' (k v own' Z) ((hp.sub F).called Y)
end
structure LoopD where
 fn:FuncId
 tmps:Array Value
 params:Array Tmp
 assign:Code
 body:Code
 D:Nat
def LoopD.rc (d:LoopD) (J:LoopState) (F:Option Code):Loop:={ state:=J,pending:=F,fn:=d.fn,tmps:=d.tmps,params:=d.params,assign:=d.assign,body:=d.body,defers:=d.D }
abbrev l6 (l:Nat) (d:LoopD) (J:LoopState) (F:Option Code) (m:Seg):Seg:=(l,.loop (d.rc J F))::(d.D,.deferred (some []))::m
def YPost {β:Type} (l:Nat) (d:LoopD) (I Ix:List β→Seg→Prop) (cx:Code) (ys:List β) (u:Value) (own' :List Seg):Prop:=
 ∃ m',own' =[m']∧((u= .bool true∧∃ m,m' =l6 l d .ready none m∧I ys m)∨(u= .bool false∧∃ m,m' =l6 l d .done (some cx) m∧Ix ys m))
def IterAt {β:Type} (P:Program) (O:FuncId) (lb:List Value) (own:List Seg) (enc:β→Value) (may:List β→β→Prop) (Fin Stp:List β→List Seg→Prop) (m0:Seg) (w:World):Prop:=
 ∀ (l:Nat) (J F:List β→Seg→Prop),J [] m0→Owns w (m0::own)→
  (∀ ys y w' m,J ys m→may ys y→Owns w' [m]→(∀ k,Fr w (m0::own) k→Fr w' [m] k∧w'.heap[k]? =w.heap[k]?)→
   YMeets P l [enc y] w' [m] fun u own' =>∃ m',own' =[m']∧((u= .bool true∧J (ys++[y]) m')∨(u= .bool false∧F (ys++[y]) m')))→
  Meets P O (.func (.yield l) #[] #[]::lb) w (m0::own) fun u own' =>u= .tuple #[]∧∃ m' o',own' =m' ::o'∧((∃ ys,Fin ys o'∧J ys m')∨(∃ ys,Stp ys o'∧F ys m'))
section
variable {P:Program} {n:Nat} {S' :Nat→Prop} {w' :World} {env:Env} {segs:List Seg} {β:Type} {l:Nat} {d:LoopD} {I Ix:List β→Seg→Prop} {cx:Code} {ys:List β} {m m' :Seg}
theorem qE (hs:Sub segs [[(l,.loop (d.rc .busy none))],[(d.D,.deferred (some []))],m']) (J:I ys m'):
  WqR n (Fr w' [l6 l d .ready none m]) w' [] (roundPost P l (f5 w' [l6 l d .ready none m] (YPost l d I Ix cx ys)) .normal) env segs:=fun a w ha hp=>by
 have F:Hp (Fr w' [l6 l d .ready none m]) w' ((l,Obj.loop (d.rc .busy none))::((d.D,.deferred (some []))::m')) w:=by simpa using hp.sub hs
 refine ⟨_,_,run_endRound none (F.own l _ (List.mem_cons_self ..)),.bool true,[l6 l d .ready none m'],rfl,?_,⟨_,rfl,.inl ⟨rfl,_,rfl,J⟩⟩⟩;have:=Hp.putObj (.loop (d.rc .ready none)) F
 rw [List.flatten_cons,List.flatten_nil,List.append_nil];exact this
theorem r_roundOut {e:Exit} (he:(e= .ret∧cx= .ret)∨∃ id,e= .exit id∧cx= .exit id) (hs:Sub segs [[(l,.loop (d.rc .busy none))],[(d.D,.deferred (some []))],m']) (J:Ix ys m'):
  WqR n (Fr w' [l6 l d .ready none m]) w' [] (roundPost P l (f5 w' [l6 l d .ready none m] (YPost l d I Ix cx ys)) e) env segs:=fun a w ha hp=>by
 have F:Hp (Fr w' [l6 l d .ready none m]) w' ((l,Obj.loop (d.rc .busy none))::((d.D,.deferred (some []))::m')) w:=by simpa using hp.sub hs
 have hq:=Hp.putObj (.loop (d.rc .done (some cx))) F
 rcases he with ⟨rfl,rfl⟩|⟨id,rfl,rfl⟩
 ·exact ⟨_,_,run_endRound (some .ret) (F.own l _ (List.mem_cons_self ..)),.bool false,[l6 l d .done (some .ret) m'],rfl,(by rw [List.flatten_cons,List.flatten_nil,List.append_nil];exact hq),⟨_,rfl,.inr ⟨rfl,_,rfl,J⟩⟩⟩
 ·exact ⟨_,_,run_endRound (some (.exit id)) (F.own l _ (List.mem_cons_self ..)),.bool false,[l6 l d .done (some (.exit id)) m'],rfl,(by rw [List.flatten_cons,List.flatten_nil,List.append_nil];exact hq),⟨_,rfl,.inr ⟨rfl,_,rfl,J⟩⟩⟩
end
section
variable {P:Program} {n:Nat} {S:Nat→Prop} {w0:World} {mk:List Nat} {env:Env} {segs:List Seg} {Q:Exit→Act→World→Prop}
theorem r_range {β:Type} {g:Operand} {p:Tmp} {assign body:Code} {Z:FuncId} {lb:List Value} (hg:ev env g=some (.func (.func Z) #[] lb.toArray))
  (hc:∀ args w,(callFunc Z args).run P w= .ok (.enter Z args) w) (hn:Nat.blt p n=true) (C own fr:List Seg) (hs:Sub segs (C++(own++fr)))
  (enc:β→Value) {may:List β→β→Prop} {Fin Stp:List β→List Seg→Prop}
  (ap:∀ w1 m0,Hp S w0 (m0::(own++fr)).flatten w1→IterAt P Z lb own enc may Fin Stp m0 w1)
  (I Ix:List β→Seg→Prop) (cx:Code) (h0:I [] C.flatten)
  (Y:∀ (w' :World) (l:Nat) (d:LoopD) (ys:List β) (y:β) (m:Seg),I ys m→may ys y→(∀ k,S k→Fr w' [l6 l d .ready none m] k∧w'.heap[k]? =w0.heap[k]?)→
   ∀ K:Act→World→Prop,(∀ env' rest,WcR P n (Fr w' [l6 l d .ready none m]) w' (some l) [] (roundPost P l (f5 w' [l6 l d .ready none m] (YPost l d I Ix cx (ys++[y])))) env' ([(l,.loop (d.rc .busy none))]::rest) body→
     WqR n (Fr w' [l6 l d .ready none m]) w' [] K env' ([(l,.loop (d.rc .ready none))]::rest))→
    WcR P n (Fr w' [l6 l d .ready none m]) w' (some l) [] (Exit.then K fun _ _ _=>False) ((p,enc y)::env) [[(l,.loop (d.rc .ready none))],[(d.D,.deferred (some []))],m] assign)
  (aa:∀ D ys m o',Fin ys o'→I ys m→WqR n S w0 (D::mk) (Q .normal) env ([(D,.deferred (some []))]::m::(o' ++fr)))
  (ab:∀ D ys m o',Stp ys o'→Ix ys m→WcR P n S w0 none (D::mk) Q env ([(D,.deferred (some []))]::m::(o' ++fr)) cx):
  WcR P n S w0 none mk Q env segs (.rangeFunc g #[p] assign body):=by
 intro a w ha hp;refine wpIn_rangeFunc ?_;intro fn _;obtain ⟨d,hd⟩:∃ d:LoopD,d=⟨fn,a.tmps,#[p],assign,body,w.heap.size⟩:=⟨_,rfl⟩
 obtain ⟨l,hl⟩:∃ l,l=w.heap.size+1:=⟨_,rfl⟩
 obtain ⟨O,ah⟩:∃ O,O=(w.alloc (.deferred (some []))).alloc (.loop (d.rc .ready none)):=⟨_,rfl⟩
 have hD:d.D=w.heap.size:=by rw [hd]
 have F:Hp S w0 (l6 l d .ready none C.flatten::(own++fr)).flatten O:=by
  have h1:=(Hp.alloc (hp.sub hs) (.deferred (some []))).alloc (.loop (d.rc .ready none))
  rw [World.size_alloc,← hl,← ah,← hD] at h1
  simpa using h1
 refine ⟨l,[{ target:= .collected w.heap.size,args:= #[] }],O,{ target:= .fn (.func Z) lb.toArray,args:= #[.func (.yield l) #[] #[]] },O,Z,
  (.func (.yield l) #[] #[]::lb).toArray,O,?_,?_,fun _ _=>trivial,?_,(fun h=>by cases h),?_⟩
 ·have:=run_enterLoop_outer (P:=P) (w:=w) fn a.tmps #[p] assign body
  rw [hl,ah,hd];exact this
 ·simp [resolve,Deferred.ofValue,ha.eval hg]
  simp [Act.eval]
 ·simp [invoke,hc]
 have ag:Owns O (l6 l d .ready none C.flatten::own):=Hp.owns (fr:=fr) F
 have ac:∀ k,S k→Fr O (l6 l d .ready none C.flatten::own) k∧O.heap[k]? =w0.heap[k]? :=fun k hk=>by
  refine ⟨⟨Nat.lt_of_lt_of_le (F.lt k hk) F.size,fun hm=>?_⟩,F.same k hk⟩;obtain ⟨⟨b',o⟩,hx,rfl⟩:=List.mem_map.1 hm
  refine F.out b' o ?_ hk;have e:(l6 l d .ready none C.flatten::(own++fr))=(l6 l d .ready none C.flatten::own)++fr:=rfl
  rw [e,List.flatten_append];exact List.mem_append_left _ hx
 have hM:=ap O _ F l (fun ys m=>∃ m',m=l6 l d .ready none m'∧I ys m') (fun ys m=>∃ m',m=l6 l d .done (some cx) m'∧Ix ys m') ⟨_,rfl,h0⟩ ag ?_
 ·show CallsIn Fence.wide 0 P Z _ O _
  refine callsIn_wide.2 (Calls.mono hM ?_);rintro e w3 ⟨v,own',rfl,al,rfl,m',o',rfl,am⟩;have ak:=Hp.called (own:=l6 l d .ready none C.flatten::own) (fr:=fr) F al
  have hE:EnR n (w.heap.size::mk) env { a with defers:=[{ target:= .collected w.heap.size,args:= #[] }]++a.defers }:=⟨ha.size,by simp [ha.defers],ha.get⟩
  rcases am with ⟨ys,hF,m,rfl,hI⟩|⟨ys,hF,m,rfl,hI⟩
  ·have J:Hp S w0 ((l,Obj.loop (d.rc .ready none))::((d.D,.deferred (some []))::(m++(o' ++fr).flatten))) w3:=by simpa using ak
   refine ⟨none,_,run_endLoop (J.own l _ (List.mem_cons_self ..)) (by simp [LoopD.rc]),?_⟩;have U:=Hp.tailR (Hp.putObj (.loop { d.rc .ready none with state:= .exhausted }) J)
   rw [hD] at U;exact aa w.heap.size ys m o' hF hI _ _ hE (by simpa using U)
  ·have J:Hp S w0 ((l,Obj.loop (d.rc .done (some cx)))::((d.D,.deferred (some []))::(m++(o' ++fr).flatten))) w3:=by simpa using ak
   refine ⟨some cx,_,run_endLoop (J.own l _ (List.mem_cons_self ..)) (by simp [LoopD.rc]),?_⟩;have U:=Hp.tailR (Hp.putObj (.loop { d.rc .done (some cx) with state:= .exhausted }) J)
   rw [hD] at U;exact ab w.heap.size ys m o' hF hI _ _ hE (by simpa using U)
 ·rintro ys y w' _ ⟨m,rfl,hI⟩ aj X ae
  refine ⟨fn,a.tmps.setIfInBounds p (enc y),assign,body,?_,?_⟩
  ·have hy:=run_yield (P:=P) (w:=w') (l:=l) (r:=d.rc .ready none) (args:= #[enc y]) (X.there l _ aO) (by rw [hd];rfl)
   rw [hd] at hy
   simpa [LoopD.rc] using hy
  ·refine RoundIn.mono (R:=f5 w' [l6 l d .ready none m] (YPost l d I Ix cx (ys++[y]))) (roundIn_of_wpIn trivial ?_) ?_
   ·refine Y w' l d ys y m hI aj (fun k hk=>⟨(ae k (ac k hk).1).1,(ae k (ac k hk).1).2.trans (ac k hk).2⟩) _ ?_ _ w' ?_ (by simpa using Hp.start X)
    ·intro env' rest hb a1 w1 ao ai
     have ad:Hp (Fr w' [l6 l d .ready none m]) w' ((l,Obj.loop (d.rc .ready none))::rest.flatten) w1:=by simpa using ai
     refine ⟨_,run_beginRound (ad.own l _ (List.mem_cons_self ..)) rfl,hb _ _ ao ?_⟩;have:=Hp.putObj (.loop (d.rc .busy none)) ad
     rw [List.flatten_cons,List.singleton_append];exact this
    ·have:=ha.put hn (enc y)
     exact ⟨by simpa [Act.put] using this.size,rfl,by simpa [Act.put] using this.get⟩
   ·rintro e ar ⟨v,own',rfl,aq,m',rfl,an⟩
    exact ⟨v,_,rfl,aq,m',rfl,an⟩
end
end Go.Proofs.YthpkelafioikaaaGreat.Fly
