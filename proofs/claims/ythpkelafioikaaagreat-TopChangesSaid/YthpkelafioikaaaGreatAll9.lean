import Derived.Test.YthpkelafioikaaaGreatFlyRun
import Derived.Test.YthpkelafioikaaaGreatAll8
import Derived.Test.YthpkelafioikaaaGreatAll0
import Derived.Test.YthpkelafioikaaaGreatAll2
import Derived.Test.YthpkelafioikaaaGreatAll3
import Derived.Test.YthpkelafioikaaaGreatAll1
import Derived.Test.YthpkelafioikaaaGreatFlyOps2
import Derived.RangeFuncRecord
import Derived.TacticsIn
namespace Go.Proofs.YthpkelafioikaaaGreat
open Go Go.RowKit Fly
set_option maxRecDepth 100000
set_option maxHeartbeats 4000000
set_option linter.all false
def jM (N:Int) (l:List Arc):Int×Int:=
 if N<1∨1024<N then (0,1) else if 16384<l.length then (0,2) else
 match l.findIdx? (gB N) with
 |some i=>(i,60)
 |none=>(0,0)
theorem ncheck_range {N:Int} {l:List Arc} (h:N<1∨1024<N):jM N l=(0,1):=by simp [jM,h]
theorem ncheck_long {N:Int} {l:List Arc} (h:1≤N∧N≤1024) (hl:16384<l.length):jM N l=(0,2):=by
 have:¬ (N<1∨1024<N):=aA
 simp [jM,this,hl]
theorem ncheck_ok {N:Int} {l:List Arc} (h:1≤N∧N≤1024) (hl:l.length≤16384) (F:∀ j (h:j<l.length),gB N l[j]=false):jM N l=(0,0):=by
 have h1:¬ (N<1∨1024<N):=aA
 have h2:¬ 16384<l.length:=aA
 have h3:l.findIdx? (gB N)=none:=by
  rw [List.findIdx?_eq_none_iff];intro x hx;obtain ⟨j,hj,rfl⟩:=List.mem_iff_getElem.1 hx
  exact F j hj
 simp [jM,h1,h2,h3]
theorem ncheck_bad {N:Int} {l:List Arc} {k:Nat} (h:1≤N∧N≤1024) (hl:l.length≤16384) (hk:k<l.length) (F:∀ j (h:j<l.length),j<k→gB N l[j]=false) (hb:gB N l[k]=true):
  jM N l=((k:Int),60):=by
 have h1:¬ (N<1∨1024<N):=aA
 have h2:¬ 16384<l.length:=aA
 have h3:l.findIdx? (gB N)=some k:=by
  rw [List.findIdx?_eq_some_iff_getElem];exact ⟨hk,hb,fun j hj=>by simp [F j aA hj]⟩
 simp [jM,h1,h2,h3]
theorem ncheck_zero {N:Int} {l:List Arc} (h:(jM N l).2=0):1≤N∧N≤1024∧l.length≤16384∧∀ k (hk:k<l.length),0≤l[k].src∧l[k].src<N∧0≤l[k].dst∧l[k].dst<N:=by
 unfold jM at h
 split at h
 ·simp at h
 ·split at h
  ·simp at h
  ·cases hf:l.findIdx? (gB N) with
   |some i=>rw [hf] at h;simp at h
   |none=>
    rw [List.findIdx?_eq_none_iff] at hf;refine ⟨aA,aA,aA,fun k hk=>?_⟩;have:=hf _ (List.getElem_mem hk)
    unfold gB at this
    simp at this;omega
def gU (N:Int) (l:List Arc) (s t:Int):Int:=if (jM N l).2≠0 then (jM N l).2 else if s<0∨N≤s∨t<0∨N≤t then 5 else if s=t then 4 else 0
theorem flooked_zero {N:Int} {l:List Arc} {s t:Int} (h:gU N l s t=0):(jM N l).2=0∧0≤s∧s<N∧0≤t∧t<N∧s≠t:=by
 unfold gU at h
 split at h
 ·rename_i h1;exact absurd h h1
 ·split at h
  ·simp at h
  ·split at h
   ·simp at h
   ·rename_i h1 h2 h3;exact ⟨by simpa using h1,aA,aA,aA,aA,h3⟩
theorem nok_of {n:Nat} {l:List Arc} (h:(jM (n:Int) l).2=0) (hok:∀ x∈l,eK x):NOk n l:=by
 obtain ⟨h1,h2,h3,F⟩:=ncheck_zero h
 exact ⟨aA,h3,F,hok⟩
def cutP (sd:List Bool) (x:Arc):Bool:=sd.getD x.src.toNat false&& !sd.getD x.dst.toNat false
theorem Side.congr {n:Nat} {e:List Arc} {s t:Nat} {f:List Int} {A B:Nat→Bool} (h:Side n e s t f A) (he:mO n e) (hs:s<n) (J:t<n) (F:∀ v,v<n→A v=B v):Side n e s t f B where
 src:=by rw [← F s hs];exact h.src
 dst:=by rw [← F t J];exact h.dst
 shut:=fun k hk hl hB=>by rw [← F _ (kto_lt he hk)];exact h.shut k hk hl (by rw [F _ (nM he hk)];exact hB)
 reach:=fun v hv hB=>h.reach v hv (by rw [F v hv];exact hB)
theorem bools_repF (b:Bool) (n:Nat):(List.replicate n [Value.bool b]).flatten=(List.replicate n b).map .bool:=by
 induction n with
 |zero=>rfl
 |succ n ih=>simp only [List.replicate_succ,List.flatten_cons,List.map_cons,ih];rfl
theorem bools_setF (l:List Bool) (i:Nat) (b:Bool):(l.map Value.bool).set i (.bool b)=(l.set i b).map .bool:=by rw [List.map_set]
theorem bools_at {l:List Bool} {i:Nat} (h:i<l.length):(l.map Value.bool)[i]? =some (.bool (l.getD i false)):=by simp [List.getD_eq_getElem?_getD,h]
def OwnB (v:Value) (sd:List Bool) (m:Seg):Prop:=(sd=[]∧v= .slice none 0 0∧m=[])∨∃ b,v= .slice (some ⟨b,0,none⟩) sd.length sd.length∧m=[(b,blk (sd.map .bool) 4)]
theorem OwnB.own {v:Value} {sd:List Bool} {m:Seg} (h:OwnB v sd m) (hm:sd.length≤9223372036854775807):Own 4 1 v sd.length (sd.map .bool) m:=by
 rcases h with ⟨rfl,rfl,rfl⟩|⟨b,rfl,rfl⟩
 ·exact Own.nil _ _
 ·exact Own.mk aN hm
def CutΦ2 (N:Int) (e:List Arc) (s t:Int) (u:Value) (own:List Seg):Prop:=
 ∃ V v m sd A c m2 W,u= .tuple #[v,.slice A W.length W.length,.int .u64 V,.int .i64 (gU N e s t)]∧own=[m,m2]∧OwnB v sd m∧Own 3 1 (.slice A W.length c) W.length (bF W) m2∧
  (gU N e s t≠0→V=0∧sd=[]∧W=[])∧
  (gU N e s t=0→sd.length=N.toNat∧W=gF (cutP sd) e∧(∃ f,Flow N.toNat e s.toNat t.toNat f V∧Side N.toNat e s.toNat t.toNat f (fun v=>sd.getD v false))∧0≤V∧V≤70368744161280)
theorem FCheck_spec (N:Int) (A:Option Addr) (l:List Arc) (cap:Nat) (w:World) (hr:Ro (Fr w []) w A (l.flatMap bZ)) (hl:l.length≤9223372036854775807) (hN:I64 N) (hok:∀ x∈l,eK x):
    Meets Tryz.prog 190 [.agg #[.int .i64 N,.slice A l.length cap]] w [] (fun v m=>v= .tuple #[.int .i64 (jM N l).1,.int .i64 (jM N l).2]∧m=[]):=by
 refine bE Tryz.func190 rfl Tryz.ntmps190 rfl Owns.nil<|aG fun kh1=>f_S (cT rfl rfl fun b1=>?_)
 refine aB 2 rfl<|aD kh1<|aS fun kh2=>aG fun kh3=>cL lR rfl<|cX Tryz.isAgg3 rfl (rdA rfl)<|aB 2 rfl<|d8 9 rfl (fun g9=>?_) (fun g9=>?_)
 ·refine aB 4 rfl<|aD kh3<|fI rfl<|aG fun kh4=>aB 2 rfl<|aD kh4<|aY<|cV ?_
  exact cZ [] Tryz.results190 rfl rfl aP ⟨by rw [ncheck_range aA],rfl⟩
 ·refine eA rfl rfl (aT lR rfl)<|eA rfl rfl (aH Tryz.isAgg3 rfl (rdA rfl))<|aB 2 rfl<|aD kh3<|aX rfl (fun c13=>?_) (fun c13=>?_)
  ·refine aG fun Y=>aB 2 rfl<|aD Y<|aY<|cV ?_
   exact cZ [] Tryz.results190 rfl rfl aP ⟨by rw [ncheck_range aA],rfl⟩
  ·have F:1≤N∧N≤1024:=aA
   refine bV kh2<|aS fun kh6=>aG fun kh7=>cL fa265_1 rfl<|cX Tryz.isAgg263 rfl (rdA rfl)<|dU sl263 rfl<|aB 1 rfl<|aD kh7<|aX rfl (fun c17=>?_) (fun c17=>?_)
   ·refine aG fun Z=>aB 2 rfl<|aD Z<|aY<|cV ?_
    exact cZ [] Tryz.results190 rfl rfl aP ⟨by rw [ncheck_long F aA],rfl⟩
   ·refine bV kh6<|aS fun kh9=>aG fun U=>cL fa265_1 rfl<|cX Tryz.isAgg263 rfl (rdA rfl)<|dU sl263 rfl<|aB 1 rfl<|aD U<|aR ?_
    refine dA (α:=Nat) [1,19,20] (fun k=>[(21,.int .i64 (k:Int))]) (fun k=>[[(b1,blk [.int .i64 N,.slice A l.length cap] 265)]]) (fun k=>k≤l.length∧∀ j (h:j<l.length),j<k→gB N l[j]=false) (fun k=>l.length - k) (0) ?_ ?_ ?_ ?_
    ·exact aF
    ·exact aC
    ·exact ⟨aA,fun j h hj=>aA⟩
    ·rintro k ⟨aa,J⟩;refine aG fun kh11=>aB 1 rfl<|aD kh11<|aS fun kh12=>aX rfl (fun X=>?_) (fun X=>?_)
     ·refine bV kh12<|aS fun kh13=>aR<|aG fun kh14=>aB 1 rfl ?_
      have hk:k<l.length:=aA
      obtain ⟨b,off,rfl,hS,hc⟩:=hr (eX bZ dD aA hk)
      refine f_Q (aL sl263 rfl rfl (off+k*3))<|f_Q (aO (vs:=bZ l[k]) Tryz.isAgg267 Tryz.sizeOf267 rfl rfl (f8 dD hS hc hk))<|f_S (cQ Tryz.zeroValue267 rfl fun b5=>?_)
      refine aB 1 rfl<|f_Z (bP Tryz.sizeOf267 rfl rfl rfl rfl cF (bZ l[k]) rfl ?_)
      refine aD kh14<|aG fun kh15=>cL fa267_0 rfl<|cX Tryz.isAgg3 rfl (rdA rfl)<|f_Q (g5 Tryz.runUnderlying3 Tryz.runUnderlying118 rfl _ rfl) ?_
      refine cL lR rfl<|cX Tryz.isAgg3 rfl (rdA rfl)<|f_Q (g5 Tryz.runUnderlying3 Tryz.runUnderlying118 rfl _ rfl) ?_
      refine aB 2 rfl<|d8 33 rfl (fun g33=>?_) (fun g33=>?_)
      ·refine aB 8 rfl<|aD kh15<|fI rfl<|aG fun kh16=>aB 3 rfl<|aD kh16<|aY<|fA<|cV<|cV ?_
       refine fA<|cV ?_
       exact cZ [] Tryz.results190 rfl rfl aP ⟨by rw [ncheck_bad F aA hk J (arcBadL F (hok _ (List.getElem_mem hk)) g33)],rfl⟩
      ·refine eA rfl rfl (aT fa267_1 rfl)<|eA rfl rfl (aH Tryz.isAgg3 rfl (rdA rfl))<|eA rfl rfl (g5 Tryz.runUnderlying3 Tryz.runUnderlying118 rfl _ rfl) ?_;refine eA rfl rfl (aT lR rfl)<|eA rfl rfl (aH Tryz.isAgg3 rfl (rdA rfl))<|eA rfl rfl (g5 Tryz.runUnderlying3 Tryz.runUnderlying118 rfl _ rfl) ?_;refine aB 2 rfl<|aD kh15<|aX rfl (fun c41=>?_) (fun c41=>?_)
       ·refine aG fun O=>aB 3 rfl<|aD O<|aY<|fA<|cV<|cV<|fA<|cV ?_
        exact cZ [] Tryz.results190 rfl rfl aP ⟨by rw [ncheck_bad F aA hk J (arcBadR F (hok _ (List.getElem_mem hk)) c41)],rfl⟩
       ·refine dY<|dF<|bO kh13<|aI<|f_Q (a8 rfl rfl)<|aB 1 rfl<|aZ ?_
        refine cS (a6 (k+1) (by first|omega|(dsimp only;omega)|(simp;omega)) ⟨aA,good_next J (arcGood F (hok _ (List.getElem_mem hk)) g33 c41)⟩ ?_ ?_ ?_)
        ·exact aF
        ·exact aF
        ·exact aC
     ·refine cN<|cO<|cO<|eC<|bO kh9<|aG fun kh18=>aB 2 rfl<|aD kh18<|aY ?_
      exact cZ [] Tryz.results190 rfl rfl aP ⟨by rw [ncheck_ok F aA (fun j h=>J j h aA)],rfl⟩
theorem FLooked_spec (N:Int) (A:Option Addr) (l:List Arc) (cap:Nat) (s t:Int) (w:World) (hr:Ro (Fr w []) w A (l.flatMap bZ)) (hl:l.length≤9223372036854775807) (Y:I64 N) (hok:∀ x∈l,eK x):
    Meets Tryz.prog 176 [.agg #[.int .i64 N,.slice A l.length cap],.int .i64 s,.int .i64 t] w [] (fun u m=>u= .int .i64 (gU N l s t)∧m=[]):=by
 refine bE Tryz.func176 rfl Tryz.ntmps176 rfl Owns.nil<|aG fun kh1=>f_S (cT rfl rfl fun Z=>?_)
 refine aB 1 rfl<|aD kh1<|aS fun kh2=>aG fun kh3=>f_Q (aO (vs:=[_,_]) Tryz.isAgg265 Tryz.sizeOf265 rfl rfl ⟨(rdA rfl),(rdA rfl),trivial⟩) ?_
 refine f_S (aV Tryz.call190 rfl (fun X U=>FCheck_spec N A l cap X (hr.up0 U) hl Y hok) ?_);rintro _ _ ⟨rfl,rfl⟩;dsimp only [aK,aJ];refine aB 5 rfl<|aD kh3<|aG fun kh4=>aB 2 rfl<|aD kh4<|aX rfl (fun c15=>?_) (fun c15=>?_)
 ·refine aG fun O=>aB 2 rfl<|aD O<|aY<|cV ?_
  exact bJ [] Tryz.results176 rfl aP ⟨by unfold gU;rw [if_pos (by simpa using c15)],rfl⟩
 ·refine bV kh2<|aS fun kh6=>aR<|aG fun kh7=>aB 3 rfl<|d8 20 rfl (fun g20=>?_) (fun g20=>?_)
  ·refine aB 16 rfl<|aD kh7<|fI rfl<|aG fun kh8=>aB 1 rfl<|aD kh8<|aY<|fA<|cV ?_
   exact bJ [] Tryz.results176 rfl aP ⟨by unfold gU;rw [if_neg (by simpa using c15),if_pos aA],rfl⟩
  ·refine aB 1 rfl<|eA rfl rfl (aT lR rfl)<|eA rfl rfl (aH Tryz.isAgg3 rfl (rdA rfl))<|aB 3 rfl<|d8 26 rfl (fun g26=>?_) (fun g26=>?_)
   ·refine aB 10 rfl<|aD kh7<|fI rfl<|aG fun kh9=>aB 1 rfl<|aD kh9<|aY<|fA<|cV ?_
    exact bJ [] Tryz.results176 rfl aP ⟨by unfold gU;rw [if_neg (by simpa using c15),if_pos aA],rfl⟩
   ·refine aB 4 rfl<|d8 30 rfl (fun g30=>?_) (fun g30=>?_)
    ·refine aB 6 rfl<|aD kh7<|fI rfl<|aG fun kh10=>aB 1 rfl<|aD kh10<|aY<|fA<|cV ?_
     exact bJ [] Tryz.results176 rfl aP ⟨by unfold gU;rw [if_neg (by simpa using c15),if_pos aA],rfl⟩
    ·refine aB 1 rfl<|eA rfl rfl (aT lR rfl)<|eA rfl rfl (aH Tryz.isAgg3 rfl (rdA rfl))<|aB 3 rfl<|aD kh7<|aX rfl (fun c17=>?_) (fun c17=>?_)
     ·refine aG fun F=>aB 1 rfl<|aD F<|aY<|fA<|cV ?_
      exact bJ [] Tryz.results176 rfl aP ⟨by unfold gU;rw [if_neg (by simpa using c15),if_pos aA],rfl⟩
     ·refine aG fun kh12=>aB 4 rfl<|aD kh12<|aX rfl (fun c36=>?_) (fun c36=>?_)
      ·refine aG fun J=>aB 1 rfl<|aD J<|aY<|fA<|cV ?_
       exact bJ [] Tryz.results176 rfl aP ⟨by unfold gU;rw [if_neg (by simpa using c15),if_neg aA,if_pos aA],rfl⟩
      ·refine dY<|dF<|bO kh6<|aG fun kh14=>aB 1 rfl<|aD kh14<|aY ?_
       exact bJ [] Tryz.results176 rfl aP ⟨by unfold gU;rw [if_neg (by simpa using c15),if_neg aA,if_neg aA],rfl⟩
theorem ClipF5_spec (A:Option Addr) (len cap:Nat) (w:World) (h:len≤cap) (hm:cap≤9223372036854775807) (hA:A=none→len=0):
    Meets Tryz.prog 159 [.slice A len cap] w [] (fun u m=>u= .slice A len len∧m=[]):=by
 refine bE Tryz.func159 rfl Tryz.ntmps159 rfl Owns.nil<|aG fun kh1=>aB 1 rfl<|aD kh1<|aG fun kh2=>aB 2 rfl<|dU bX rfl<|aB 1 rfl<|dU bX rfl<|f_Q (f7 bX rfl rfl rfl rfl (fun _=>rfl) 0 len len (.inl ⟨rfl,rfl⟩) (.inr ⟨_,_,rfl,aA⟩) (.inr ⟨_,_,rfl,aA⟩) ⟨aA,aA,aA⟩ (.slice A len len) (by rw [Nat.sub_zero];congr 1;split;rfl;cases A with|none=>rfl|some x=>obtain ⟨p,q,r⟩:=x;cases r<;>simp [Addr.add])) ?_
 refine aB 1 rfl<|aD kh2<|aY ?_
 exact bJ [] Tryz.results159 rfl aP ⟨rfl,rfl⟩
theorem Cut_spec2 (N:Int) (A:Option Addr) (l:List Arc) (cap:Nat) (s t:Int) (w:World) (hr:Ro (Fr w []) w A (l.flatMap bZ)) (hl:l.length≤9223372036854775807) (hN:I64 N) (hok:∀ x∈l,eK x):
    Meets Tryz.prog 163 [.agg #[.int .i64 N,.slice A l.length cap],.int .i64 s,.int .i64 t] w [] (CutΦ2 N l s t):=by
 refine bE Tryz.func163 rfl Tryz.ntmps163 rfl Owns.nil<|aG fun kh1=>f_S (cT rfl rfl fun b3=>?_)
 refine aB 4 rfl<|aD kh1<|aS fun kh2=>aG fun kh3=>f_Q (aO (vs:=[_,_]) Tryz.isAgg265 Tryz.sizeOf265 rfl rfl ⟨(rdA rfl),(rdA rfl),trivial⟩)<|aB 2 rfl ?_
 refine f_S (aV Tryz.call176 rfl (fun J F=>FLooked_spec N A l cap s t J (hr.up0 F) hl hN hok) ?_);rintro _ _ ⟨rfl,rfl⟩;dsimp only [aK,aJ];refine aB 1 rfl<|aD kh3<|aG fun kh4=>aB 2 rfl<|aD kh4<|aX rfl (fun c21=>?_) (fun c21=>?_)
 ·refine aG fun ag=>aB 5 rfl<|aD ag<|aY<|cV ?_
  exact f_fin4 [[],[]] Tryz.results163 rfl rfl rfl rfl (Sub.transF Sub.empty Sub.addNil) ⟨0,.slice none 0 0,[],[],none,0,[],[],rfl,rfl,.inl ⟨rfl,rfl,rfl⟩,Own.nil _ _,fun _=>⟨rfl,rfl,rfl⟩,fun h=>absurd h c21⟩
 ·have hz:gU N l s t=0:=by simpa using c21
  obtain ⟨Y,be,az,bf,ax,au⟩:=flooked_zero hz
  have a2:=ncheck_zero Y
  obtain ⟨n,rfl⟩:∃ n:Nat,N=n:=⟨N.toNat,aA⟩
  obtain ⟨a,rfl⟩:∃ k:Nat,s=k:=⟨s.toNat,aA⟩
  obtain ⟨b,rfl⟩:∃ k:Nat,t=k:=⟨t.toNat,aA⟩
  have hn:=nok_of Y hok
  have bg:=hn.n1
  have av:=hn.len
  have ab:a<n:=aA
  have U:b<n:=aA
  have aq:a≠b:=aA
  refine bV kh2<|aG fun kh6=>f_Q (aO (vs:=[_,_]) Tryz.isAgg265 Tryz.sizeOf265 rfl rfl ⟨(rdA rfl),(rdA rfl),trivial⟩) ?_
  refine f_S (aV Tryz.call177 rfl (fun J F=>fbegin_spec n A l cap J (hr.up0 F) hn) ?_);rintro _ _ ⟨bx,mD,rfl,rfl,ao⟩;dsimp only [aK,aJ];refine aB 1 rfl<|aD kh6<|aG fun kh7=>aB 3 rfl ?_
  refine f_S (d4 [mD] _ Tryz.call178 rfl (aM Sub.refl) (fun J F=>run_spec n l (List.replicate n 0) (List.replicate n 0) bx mD a b J hn aN aN ao ab U aq F.owns) ?_);rintro _ _ ⟨V,f,L,nx,m',rfl,rfl,hD,hF,aa,ak,ae,ar⟩;have ba:=hF.fits.len
  have aw:=aa.len
  dsimp only [aK,aJ];refine aB 1 rfl<|aD kh7<|aG fun kh8=>cL lR rfl<|cX Tryz.isAgg3 rfl (rdA rfl)<|f_S (eZ el37 rfl rfl n rfl aA aA ((List.replicate n false).map .bool) (bools_repF false n) fun b31=>?_)
  refine aB 1 rfl<|aD kh8<|aS fun kh9=>aS fun Z=>?_
  obtain ⟨bat,bl,bn,ve,vs,ms,me,an,hR,hE⟩:=hD
  obtain ⟨Ae,ce,rfl,_⟩:=hE.val
  refine eP (Sub.openAtF an) ?_
  unfold mA
  dsimp only [aK,aJ];refine aI<|aB 1 rfl<|f_Q (dH rfl)<|cL lQ rfl<|cX Tryz.isAgg25 rfl (rdA rfl)<|dU bX rfl<|aB 1 rfl<|aD Z<|aR ?_
  refine dA (α:=Nat×List Bool) [3,6,7,8,35,36] (fun ⟨v,sd⟩=>[(37,.int .i64 (v:Int))]) (fun ⟨v,sd⟩=>[[(b31,blk (sd.map .bool) 4)],[(bl,blk (bF L) 3)],[(b3,blk [.int .i64 (n:Int),.slice A l.length cap] 265)]]) (fun ⟨v,sd⟩=>v≤n∧sd.length=n∧∀ u,u<v→sd.getD u false=decide (0≤dK L u)) (fun ⟨v,sd⟩=>n - v) (0,List.replicate n false) ?_ ?_ ?_ ?_
  ·exact aF
  ·exact aC
  ·exact ⟨Nat.zero_le _,aN,fun j h=>aA⟩
  ·rintro ⟨v,sd⟩ ⟨bh,hsl,ad⟩;refine aG fun kh11=>aB 1 rfl<|aD kh11<|aS fun kh12=>aX rfl (fun ap=>?_) (fun ap=>?_)
   ·refine bV kh12<|aS fun kh13=>aR<|aG fun kh14=>aB 1 rfl ?_
    have bi:v<n:=aA
    refine f_Q (aL bX rfl rfl (v))<|f_Q (aH Tryz.isAgg3 rfl (rdA (kV aA)))<|aB 2 rfl<|aD kh14<|aI<|aB 4 rfl<|f_Q (aL o9 rfl rfl (v))<|f_Z (bU Tryz.sizeOf4 rfl rfl rfl rfl (by rw [List.length_map];omega) ((sd.set v (decide (0≤dK L v))).map .bool) (bools_setF _ _ _) ?_)
    refine aZ<|dF<|bO kh13<|aI<|f_Q (a8 rfl rfl)<|aB 1 rfl<|aZ ?_
    refine cS (a6 (v+1,sd.set v (decide (0≤dK L v))) (by first|omega|(dsimp only;omega)|(simp;omega)) ⟨aA,by simpa using hsl,fun u hu=>by
      rw [List.getD_eq_getElem?_getD,List.getElem?_set]
      by_cases e:v=u
      ·subst e;rw [if_pos rfl,if_pos aA];rfl
      ·rw [if_neg e,← List.getD_eq_getElem?_getD];exact ad u aA⟩ ?_ ?_ ?_)
    ·exact aF
    ·exact aF
    ·exact aC
   ·refine cN<|cO<|cO<|eC<|bO kh9<|aS fun kh15=>aG fun ac=>cL fa265_1 rfl<|cX Tryz.isAgg263 rfl (rdA rfl)<|dU sl263 rfl ?_
    refine aB 1 rfl<|aD ac<|aR ?_
    refine dA (α:=Nat×Value×Seg) [6,8,49,50] (fun ⟨i,O,wm⟩=>[(51,.int .i64 (i:Int)),(7,O)]) (fun ⟨i,O,wm⟩=>[[(b31,blk (sd.map .bool) 4)],[(b3,blk [.int .i64 (n:Int),.slice A l.length cap] 265)],wm]) (fun ⟨i,O,wm⟩=>i≤l.length∧Own 3 1 O (gF (cutP sd) (l.take i)).length (bF (gF (cutP sd) (l.take i))) wm∧(gF (cutP sd) (l.take i)).length≤i) (fun ⟨i,O,wm⟩=>l.length - i) (0,.slice none 0 0,[]) ?_ ?_ ?_ ?_
    ·exact aF
    ·exact aC
    ·exact ⟨Nat.zero_le _,Own.nil _ _,Nat.le_refl _⟩
    ·rintro ⟨i,O,wm⟩ ⟨bc,hW,a1⟩;obtain ⟨Aw,cw,rfl,X⟩:=hW.val
     refine fF (e:=[(51,_),(7,_),(6,_),(8,_),(49,_),(50,_)]) aF ?_;refine aG fun kh17=>aB 1 rfl<|aD kh17<|aS fun kh18=>aX rfl (fun ah=>?_) (fun ah=>?_)
     ·refine bV kh18<|aS fun kh19=>aR<|aG fun kh20=>aB 1 rfl ?_
      have hi:i<l.length:=aA
      obtain ⟨bq,off,rfl,hS,hc⟩:=hr (eX bZ dD aA hi)
      have ay:=hn.good i hi
      refine f_Q (aL sl263 rfl rfl (off+i*3))<|f_Q (aO (vs:=bZ l[i]) Tryz.isAgg267 Tryz.sizeOf267 rfl rfl (f8 dD hS hc hi))<|f_S (cQ Tryz.zeroValue267 rfl fun b15=>?_)
      refine aB 1 rfl<|f_Z (bP Tryz.sizeOf267 rfl rfl rfl rfl cF (bZ l[i]) rfl ?_)
      refine aD kh20<|aG fun kh21=>aB 1 rfl<|cL fa267_0 rfl<|cX Tryz.isAgg3 rfl (rdA rfl)<|f_Q (aL o9 rfl rfl (l[i].src.toNat))<|f_Q (aH Tryz.isAgg4 rfl (rdA (bools_at aA)))<|aB 1 rfl<|m4 61 rfl (fun g61=>?_) (fun g61=>?_)
      ·refine aB 1 rfl<|eA rfl rfl (aT fa267_1 rfl)<|eA rfl rfl (aH Tryz.isAgg3 rfl (rdA rfl))<|eA rfl rfl (aL o9 rfl rfl (l[i].dst.toNat))<|eA rfl rfl (aH Tryz.isAgg4 rfl (rdA (bools_at aA)))<|aB 2 rfl<|aD kh21<|eO rfl (fun c68=>?_) (fun c68=>?_)
       ·refine aI<|aB 2 rfl<|f_S (bQ eL aA rfl rfl rfl fun b71=>?_)
        refine f_S (dE eL rfl rfl hW (ys:=[.int .i64 (i:Int)]) ⟨(rdA rfl),trivial⟩ rfl rfl aA aA fun ai am aj=>?_);refine aB 1 rfl<|aZ<|dF<|bO kh19<|aI<|f_Q (a8 rfl rfl)<|aB 1 rfl<|aZ ?_
        refine cS (a6 (i+1,ai,am) (by first|omega|(dsimp only;omega)|(simp;omega)) ⟨aA,by rw [nQ hi (by unfold cutP;rw [g61,c68];rfl),List.length_append,eJ];exact aj,by rw [nQ hi (by unfold cutP;rw [g61,c68];rfl),List.length_append];simp;omega⟩ ?_ ?_ ?_)
        ·exact aF
        ·exact aF
        ·exact aC
       ·refine dY<|dF<|bO kh19<|aI<|f_Q (a8 rfl rfl)<|aB 1 rfl<|aZ ?_
        refine cS (a6 (i+1,.slice Aw (gF (cutP sd) (l.take i)).length cw,wm) (by first|omega|(dsimp only;omega)|(simp;omega)) ⟨aA,by rw [lP hi (by unfold cutP;first|(rw [g61,c68];rfl)|(rw [g61];rfl))];exact hW,by rw [lP hi (by unfold cutP;first|(rw [g61,c68];rfl)|(rw [g61];rfl))];omega⟩ ?_ ?_ ?_)
        ·exact aF
        ·exact aF
        ·exact aC
      ·refine aB 7 rfl<|aD kh21<|iJ rfl<|dY<|dF<|bO kh19<|aI<|f_Q (a8 rfl rfl)<|aB 1 rfl<|aZ ?_
       refine cS (a6 (i+1,.slice Aw (gF (cutP sd) (l.take i)).length cw,wm) (by first|omega|(dsimp only;omega)|(simp;omega)) ⟨aA,by rw [lP hi (by unfold cutP;first|(rw [g61,c68];rfl)|(rw [g61];rfl))];exact hW,by rw [lP hi (by unfold cutP;first|(rw [g61,c68];rfl)|(rw [g61];rfl))];omega⟩ ?_ ?_ ?_)
       ·exact aF
       ·exact aF
       ·exact aC
     ·refine cN<|cO<|cO<|eC<|bO kh15<|aG fun kh22=>aB 2 rfl ?_
      refine f_S (aV Tryz.call159 rfl (fun J F=>ClipF5_spec Aw (gF (cutP sd) (l.take i)).length cw J X.1 X.2 (j5 hW)) ?_);rintro _ _ ⟨rfl,rfl⟩;dsimp only [aK,aJ];refine aB 5 rfl<|aD kh22<|aY ?_
      have al:l.take i=l:=List.take_of_length_le aA
      rw [al] at hW ⊢;exact f_fin4 [[(b31,blk (sd.map .bool) 4)],wm] Tryz.results163 rfl rfl rfl rfl (by repeat (first|exact aP|refine aM ?_|refine cE rfl ?_)) ⟨V,_,_,sd,Aw,cw,wm,_,by rw [hz],rfl,.inr ⟨b31,by rw [hsl],rfl⟩,hW,fun h=>absurd hz h,fun _=>by rw [Int.toNat_natCast,Int.toNat_natCast,Int.toNat_natCast];exact ⟨hsl,rfl,⟨f,hF,(aa.side hn.net ak).congr hn.net ab U fun u hu=>(ad u aA).symm⟩,ae,ar⟩⟩
def iO (n:Nat) (l:List Arc):List (List Int):=(List.range n).map fun v=>l.flatMap (nbr (Int.ofNat v))
def nrows (n:Nat) (l:List Arc):List (List Int):=(List.range n).map fun v=>dS (Int.ofNat v) l
def jW (n:Nat) (l:List Arc) (j:Nat):List (List Int):=(List.range n).map fun v=>if v<j then dS (Int.ofNat v) l else l.flatMap (nbr (Int.ofNat v))
theorem iG (n:Nat) (l:List Arc):(iO n l).length=n:=by simp [iO]
theorem nrows_len (n:Nat) (l:List Arc):(nrows n l).length=n:=by simp [nrows]
theorem mixRows_len (n:Nat) (l:List Arc) (j:Nat):(jW n l j).length=n:=by simp [jW]
theorem i3 {n:Nat} {l:List Arc} {i:Nat} (h:i<(iO n l).length):(iO n l)[i]=l.flatMap (nbr (i:Int)):=by simp [iO]
theorem nrows_get {n:Nat} {l:List Arc} {i:Nat} (h:i<(nrows n l).length):(nrows n l)[i]=dS (i:Int) l:=by simp [nrows]
theorem n9 {n:Nat} {l:List Arc} {i j:Nat} (h:i<(jW n l j).length):(jW n l j)[i]=if i<j then dS (i:Int) l else l.flatMap (nbr (i:Int)):=by simp [jW]
theorem rawRows_nil (n:Nat):iO n []=List.replicate n []:=by
 refine List.ext_getElem (by simp [iO]) fun i h1 h2=>?_;rw [i3];simp
theorem rawRows_same {n:Nat} {l:List Arc} {k:Nat} (hk:k<l.length) (h:l[k].src=l[k].dst):iO n (l.take (k+1))=iO n (l.take k):=by
 refine List.ext_getElem (by simp [iO]) fun i h1 h2=>?_;rw [i3,i3,pJ hk];simp [nbr,h]
theorem n8 {n:Nat} {l:List Arc} {k s d:Nat} (hk:k<l.length) (hs:l[k].src=(s:Int)) (hd:l[k].dst=(d:Int)) (hne:s≠d):
  ((iO n (l.take k)).set s ((l.take k).flatMap (nbr (s:Int))++[l[k].dst])).set d ((l.take k).flatMap (nbr (d:Int))++[l[k].src])=iO n (l.take (k+1)):=by
 refine List.ext_getElem (by simp [iO]) fun i h1 h2=>?_;have e1:¬ l[k].src=l[k].dst:=aA
 rw [i3,pJ hk]
 by_cases h:i=d
 ·subst h
  rw [List.getElem_set_self]
  unfold nbr
  rw [if_neg e1,if_neg aA,if_pos aA]
 ·rw [List.getElem_set_ne aA]
  by_cases h' :i=s
  ·subst h'
   rw [List.getElem_set_self]
   unfold nbr
   rw [if_neg e1,if_pos aA]
  ·rw [List.getElem_set_ne aA,i3]
   unfold nbr
   rw [if_neg e1,if_neg aA,if_neg aA];simp
theorem mixRows_zero (n:Nat) (l:List Arc):jW n l 0=iO n l:=by simp [jW,iO]
theorem mixRows_all (n:Nat) (l:List Arc):jW n l n=nrows n l:=by
 refine List.ext_getElem (by simp [jW,nrows]) fun i h1 h2=>?_;rw [n9,nrows_get,if_pos (by simpa [nrows] using h2)]
theorem mixRows_next {n:Nat} {l:List Arc} {j:Nat}:(jW n l j).set j (cpt (gT (l.flatMap (nbr (j:Int)))))=jW n l (j+1):=by
 refine List.ext_getElem (by simp [jW]) fun i h1 h2=>?_;rw [n9]
 by_cases h:i=j
 ·subst h;rw [List.getElem_set_self,if_pos aA];rfl
 ·rw [List.getElem_set_ne aA,n9]
  by_cases h' :i<j
  ·rw [if_pos h',if_pos aA]
  ·rw [if_neg h',if_neg aA]
theorem gM {E:TypeId} {v:Value} {l:List Int} {x:Int} {m:Seg}:Own E 1 v (l.length+1) (bF l++[.int .i64 x]) m=Own E 1 v (l++[x]).length (bF (l++[x])) m:=by rw [eJ,List.length_append];rfl
theorem rep_flat' (n:Nat) (v:Value):List.replicate n v=(List.replicate n [v]).flatten:=by
 induction n with
 |zero=>rfl
 |succ n ih=>rw [List.replicate_succ,List.replicate_succ,List.flatten_cons,← ih];rfl
theorem qB (n:Nat) (A:Option Addr) (l:List Arc) (cap:Nat) (w:World) (hr:Ro (Fr w []) w A (l.flatMap bZ)) (hn:n≤1024) (hlen:l.length≤8192) (be:∀ k (hk:k<l.length),0≤l[k].src∧l[k].src<(n:Int)∧0≤l[k].dst∧l[k].dst<(n:Int)):
    Meets Tryz.prog 168 [.agg #[.int .i64 (n:Int),.slice A l.length cap]] w [] (fun u own' =>∃ bo vs ms,u= .slice (some ⟨bo,0,none⟩) n n∧own' =[[(bo,blk vs 25)],ms.flatten]∧RowsI 3 (nrows n l) vs ms):=by
 refine bE Tryz.func168 rfl Tryz.ntmps168 rfl Owns.nil<|aG fun kh1=>f_S (cT rfl rfl fun b1=>?_)
 refine aB 1 rfl<|aD kh1<|aG fun kh2=>cL eT rfl<|cX Tryz.isAgg3 rfl (rdA rfl)<|f_S (eZ el32 rfl rfl n rfl aA aA (List.replicate n (.slice none 0 0)) (rep_flat' n _).symm fun b9=>?_)
 refine aB 1 rfl<|aD kh2<|aS fun kh3=>aG fun bh=>cL fT rfl<|cX Tryz.isAgg22 rfl (rdA rfl)<|dU jB rfl<|aB 1 rfl<|aD bh<|aR ?_
 refine dA (α:=Nat×List Value×List Seg) [3,11,12] (fun ⟨k,vs,ms⟩=>[(13,.int .i64 (k:Int))]) (fun ⟨k,vs,ms⟩=>[[(b9,blk vs 25)],ms.flatten,[(b1,blk [.int .i64 (n:Int),.slice A l.length cap] 24)]]) (fun ⟨k,vs,ms⟩=>k≤l.length∧RowsI 3 (iO n (l.take k)) vs ms) (fun ⟨k,vs,ms⟩=>l.length - k) (0,List.replicate n (.slice none 0 0),List.replicate n []) ?_ ?_ ?_ ?_
 · exact aF
 · dsimp only
   rw [show (List.replicate n ([]:Seg)).flatten=[] from by simp];exact aC
 · exact ⟨aA,by rw [List.take_zero,rawRows_nil];exact RowsI.start _ n⟩
 ·
  rintro ⟨k,vs,ms⟩ ⟨br,hR⟩;refine aG fun kh5=>aB 1 rfl<|aD kh5<|aS fun kh6=>aX rfl (fun a1=>?_) (fun a1=>?_)
  ·
   refine bV kh6<|aS fun kh7=>aR<|aG fun kh8=>?_
   have hk:k<l.length:=aA
   obtain ⟨bl,off,rfl,hS,hc⟩:=hr (eX bZ dD aA hk)
   have bt:=be k hk
   refine f_Q (aL jB rfl rfl (off+k*3))<|f_Q (aO (vs:=bZ l[k]) Tryz.isAgg69 Tryz.sizeOf69 rfl rfl (f8 dD hS hc hk))<|f_S (cQ Tryz.zeroValue69 rfl fun b5=>?_)
   refine f_Z (bP Tryz.sizeOf69 rfl rfl rfl rfl cF (bZ l[k]) rfl ?_);refine aD kh8<|aG fun kh9=>cL fY rfl<|cX Tryz.isAgg3 rfl (rdA rfl)<|cL fO rfl<|cX Tryz.isAgg3 rfl (rdA rfl)<|aB 1 rfl<|aD kh9<|aX rfl (fun c21=>?_) (fun c21=>?_)
   ·
    refine aS fun aq=>?_;obtain ⟨s,hs,a2⟩:∃ s:Nat,l[k].src=(s:Int)∧s<n:=⟨l[k].src.toNat,aA,aA⟩
    obtain ⟨d,hd,ay⟩:∃ d:Nat,l[k].dst=(d:Int)∧d<n:=⟨l[k].dst.toNat,aA,aA⟩
    have am:s≠d:=aA
    obtain ⟨rv,rm,rG,ap,ah,au,ae⟩:=hR.split (i:=s) (by rw [iG];exact a2)
    rw [i3] at ah;have ai:=qM (s:Int) (l.take k)
    rw [List.length_take] at ai;obtain ⟨rl,ab⟩:∃ rl,rl=(l.take k).flatMap (nbr (s:Int)):=⟨_,rfl⟩
    rw [← ab] at ah ai;obtain ⟨Ar,cr,rfl,bk⟩:=ah.val
    refine eP (Sub.splitF au)<|c7 [[(b5,blk (bZ l[k]) 69)]] rfl<|f_T 0 rfl (aU rfl)<|f_T 1 rfl (aT fY rfl)<|f_T 2 rfl (aH Tryz.isAgg3 rfl (rdA rfl))<|f_T 3 rfl (aU rfl)<|f_T 4 rfl (aT fY rfl)<|f_T 5 rfl (aH Tryz.isAgg3 rfl (rdA rfl))<|f_T 6 rfl (aL gL rfl rfl (s))<|f_T 8 rfl (aT fO rfl) ?_;refine f_T 9 rfl (aH Tryz.isAgg3 rfl (rdA rfl))<|gH 7 10 rfl rfl aW rfl rfl rfl rfl rfl rfl ?_ ?_
    ·
     refine (aH Tryz.isAgg25 rfl (rdA ap)).does ⟨aC,?_⟩;refine f_O 10 rfl (bQ eL aA rfl rfl rfl fun bf=>⟨aC,?_⟩);refine f_O 11 rfl (dE eL rfl rfl ah (ys:=[.int .i64 l[k].dst]) ⟨(rdA rfl),trivial⟩ rfl rfl aA aA fun bi al ak=>⟨aC,?_⟩);obtain ⟨ag,J,rfl,_⟩:=ak.val
     refine f_T 12 rfl (aL gL rfl rfl (s))<|fZ 13 rfl (bU Tryz.sizeOf25 rfl rfl rfl rfl (by have:=hR.lv;rw [iG] at this;omega) (vs.set s (.slice ag (rl.length+1) J)) rfl ⟨aC,?_⟩)
     refine cU aW<|bO aq<|eP (Sub.joinF (m:=al) (G' :=rG) (ae _ _ _ (by rw [← gM];exact ak)).2) ?_
     obtain ⟨bc,bj,ao,aj,U,an,O⟩:=(ae _ _ _ (by rw [← gM];exact ak)).1.split (i:=d) (by rw [List.length_set,iG];exact ay)
     rw [List.getElem_set_ne am,i3] at U;have Z:=qM (d:Int) (l.take k)
     rw [List.length_take] at Z;obtain ⟨aa,X⟩:∃ aa,aa=(l.take k).flatMap (nbr (d:Int)):=⟨_,rfl⟩
     rw [← X] at U Z;obtain ⟨bp,bq,rfl,az⟩:=U.val
     refine eP (Sub.splitF an)<|c7 [[(b5,blk (bZ l[k]) 69)]] rfl<|f_T 0 rfl (aU rfl)<|f_T 1 rfl (aT fO rfl)<|f_T 2 rfl (aH Tryz.isAgg3 rfl (rdA rfl))<|f_T 3 rfl (aU rfl)<|f_T 4 rfl (aT fO rfl)<|f_T 5 rfl (aH Tryz.isAgg3 rfl (rdA rfl))<|f_T 6 rfl (aL gL rfl rfl (d))<|f_T 8 rfl (aT fY rfl) ?_;refine f_T 9 rfl (aH Tryz.isAgg3 rfl (rdA rfl))<|gH 7 10 rfl rfl aW rfl rfl rfl rfl rfl rfl ?_ ?_
     ·
      refine (aH Tryz.isAgg25 rfl (rdA aj)).does ⟨aC,?_⟩;refine f_O 10 rfl (bQ eL aA rfl rfl rfl fun ar=>⟨aC,?_⟩);refine f_O 11 rfl (dE eL rfl rfl U (ys:=[.int .i64 l[k].src]) ⟨(rdA rfl),trivial⟩ rfl rfl aA aA fun v46 ad Y=>⟨aC,?_⟩);obtain ⟨ac,F,rfl,_⟩:=Y.val
      refine f_T 12 rfl (aL gL rfl rfl (d))<|fZ 13 rfl (bU Tryz.sizeOf25 rfl rfl rfl rfl (by have:=hR.lv;rw [iG] at this;rw [List.length_set];omega) ((vs.set s (.slice ag (rl.length+1) J)).set d (.slice ac (aa.length+1) F)) rfl ⟨aC,?_⟩)
      refine cU aW<|dF<|bO kh7<|aI<|f_Q (a8 rfl rfl)<|aB 1 rfl<|aZ<|f9 (Sub.joinF (m:=ad) (G' :=ao) (O _ _ _ (by rw [← gM];exact Y)).2) ?_
      refine cS (a6 (k+1,(vs.set s (.slice ag (rl.length+1) J)).set d (.slice ac (aa.length+1) F),(ms.set s al).set d ad) (by first|omega|(dsimp only;omega)|(simp;omega)) ⟨aA,by have:=(O _ _ _ (by rw [← gM];exact Y)).1;rw [ab,X,n8 hk hs hd am] at this;rw [ab,X];exact this⟩ ?_ ?_ ?_)
      · exact aF
      · exact aF
      · exact aC
     ·
      refine (bQ eL aA rfl rfl rfl fun ar=>⟨aC,?_⟩);refine f_O 7 rfl ((aH Tryz.isAgg25 rfl (rdA aj)).does ⟨aC,?_⟩);refine f_O 11 rfl (dE eL rfl rfl U (ys:=[.int .i64 l[k].src]) ⟨(rdA rfl),trivial⟩ rfl rfl aA aA fun v46 ad Y=>⟨aC,?_⟩);obtain ⟨ac,F,rfl,_⟩:=Y.val
      refine f_T 12 rfl (aL gL rfl rfl (d))<|fZ 13 rfl (bU Tryz.sizeOf25 rfl rfl rfl rfl (by have:=hR.lv;rw [iG] at this;rw [List.length_set];omega) ((vs.set s (.slice ag (rl.length+1) J)).set d (.slice ac (aa.length+1) F)) rfl ⟨aC,?_⟩)
      refine cU aW<|dF<|bO kh7<|aI<|f_Q (a8 rfl rfl)<|aB 1 rfl<|aZ<|f9 (Sub.joinF (m:=ad) (G' :=ao) (O _ _ _ (by rw [← gM];exact Y)).2) ?_
      refine cS (a6 (k+1,(vs.set s (.slice ag (rl.length+1) J)).set d (.slice ac (aa.length+1) F),(ms.set s al).set d ad) (by first|omega|(dsimp only;omega)|(simp;omega)) ⟨aA,by have:=(O _ _ _ (by rw [← gM];exact Y)).1;rw [ab,X,n8 hk hs hd am] at this;rw [ab,X];exact this⟩ ?_ ?_ ?_)
      · exact aF
      · exact aF
      · exact aC
    ·
     refine (bQ eL aA rfl rfl rfl fun bf=>⟨aC,?_⟩);refine f_O 7 rfl ((aH Tryz.isAgg25 rfl (rdA ap)).does ⟨aC,?_⟩);refine f_O 11 rfl (dE eL rfl rfl ah (ys:=[.int .i64 l[k].dst]) ⟨(rdA rfl),trivial⟩ rfl rfl aA aA fun bi al ak=>⟨aC,?_⟩);obtain ⟨ag,J,rfl,_⟩:=ak.val
     refine f_T 12 rfl (aL gL rfl rfl (s))<|fZ 13 rfl (bU Tryz.sizeOf25 rfl rfl rfl rfl (by have:=hR.lv;rw [iG] at this;omega) (vs.set s (.slice ag (rl.length+1) J)) rfl ⟨aC,?_⟩)
     refine cU aW<|bO aq<|eP (Sub.joinF (m:=al) (G' :=rG) (ae _ _ _ (by rw [← gM];exact ak)).2) ?_
     obtain ⟨bc,bj,ao,aj,U,an,O⟩:=(ae _ _ _ (by rw [← gM];exact ak)).1.split (i:=d) (by rw [List.length_set,iG];exact ay)
     rw [List.getElem_set_ne am,i3] at U;have Z:=qM (d:Int) (l.take k)
     rw [List.length_take] at Z;obtain ⟨aa,X⟩:∃ aa,aa=(l.take k).flatMap (nbr (d:Int)):=⟨_,rfl⟩
     rw [← X] at U Z;obtain ⟨bp,bq,rfl,az⟩:=U.val
     refine eP (Sub.splitF an)<|c7 [[(b5,blk (bZ l[k]) 69)]] rfl<|f_T 0 rfl (aU rfl)<|f_T 1 rfl (aT fO rfl)<|f_T 2 rfl (aH Tryz.isAgg3 rfl (rdA rfl))<|f_T 3 rfl (aU rfl)<|f_T 4 rfl (aT fO rfl)<|f_T 5 rfl (aH Tryz.isAgg3 rfl (rdA rfl))<|f_T 6 rfl (aL gL rfl rfl (d))<|f_T 8 rfl (aT fY rfl) ?_;refine f_T 9 rfl (aH Tryz.isAgg3 rfl (rdA rfl))<|gH 7 10 rfl rfl aW rfl rfl rfl rfl rfl rfl ?_ ?_
     ·
      refine (aH Tryz.isAgg25 rfl (rdA aj)).does ⟨aC,?_⟩;refine f_O 10 rfl (bQ eL aA rfl rfl rfl fun ar=>⟨aC,?_⟩);refine f_O 11 rfl (dE eL rfl rfl U (ys:=[.int .i64 l[k].src]) ⟨(rdA rfl),trivial⟩ rfl rfl aA aA fun v46 ad Y=>⟨aC,?_⟩);obtain ⟨ac,F,rfl,_⟩:=Y.val
      refine f_T 12 rfl (aL gL rfl rfl (d))<|fZ 13 rfl (bU Tryz.sizeOf25 rfl rfl rfl rfl (by have:=hR.lv;rw [iG] at this;rw [List.length_set];omega) ((vs.set s (.slice ag (rl.length+1) J)).set d (.slice ac (aa.length+1) F)) rfl ⟨aC,?_⟩)
      refine cU aW<|dF<|bO kh7<|aI<|f_Q (a8 rfl rfl)<|aB 1 rfl<|aZ<|f9 (Sub.joinF (m:=ad) (G' :=ao) (O _ _ _ (by rw [← gM];exact Y)).2) ?_
      refine cS (a6 (k+1,(vs.set s (.slice ag (rl.length+1) J)).set d (.slice ac (aa.length+1) F),(ms.set s al).set d ad) (by first|omega|(dsimp only;omega)|(simp;omega)) ⟨aA,by have:=(O _ _ _ (by rw [← gM];exact Y)).1;rw [ab,X,n8 hk hs hd am] at this;rw [ab,X];exact this⟩ ?_ ?_ ?_)
      · exact aF
      · exact aF
      · exact aC
     ·
      refine (bQ eL aA rfl rfl rfl fun ar=>⟨aC,?_⟩);refine f_O 7 rfl ((aH Tryz.isAgg25 rfl (rdA aj)).does ⟨aC,?_⟩);refine f_O 11 rfl (dE eL rfl rfl U (ys:=[.int .i64 l[k].src]) ⟨(rdA rfl),trivial⟩ rfl rfl aA aA fun v46 ad Y=>⟨aC,?_⟩);obtain ⟨ac,F,rfl,_⟩:=Y.val
      refine f_T 12 rfl (aL gL rfl rfl (d))<|fZ 13 rfl (bU Tryz.sizeOf25 rfl rfl rfl rfl (by have:=hR.lv;rw [iG] at this;rw [List.length_set];omega) ((vs.set s (.slice ag (rl.length+1) J)).set d (.slice ac (aa.length+1) F)) rfl ⟨aC,?_⟩)
      refine cU aW<|dF<|bO kh7<|aI<|f_Q (a8 rfl rfl)<|aB 1 rfl<|aZ<|f9 (Sub.joinF (m:=ad) (G' :=ao) (O _ _ _ (by rw [← gM];exact Y)).2) ?_
      refine cS (a6 (k+1,(vs.set s (.slice ag (rl.length+1) J)).set d (.slice ac (aa.length+1) F),(ms.set s al).set d ad) (by first|omega|(dsimp only;omega)|(simp;omega)) ⟨aA,by have:=(O _ _ _ (by rw [← gM];exact Y)).1;rw [ab,X,n8 hk hs hd am] at this;rw [ab,X];exact this⟩ ?_ ?_ ?_)
      · exact aF
      · exact aF
      · exact aC
   ·
    refine dY<|dF<|bO kh7<|aI<|f_Q (a8 rfl rfl)<|aB 1 rfl<|aZ ?_
    refine cS (a6 (k+1,vs,ms) (by first|omega|(dsimp only;omega)|(simp;omega)) ⟨aA,by rw [rawRows_same hk (by simpa using c21)];exact hR⟩ ?_ ?_ ?_)
    · exact aF
    · exact aF
    · exact aC
  ·
   refine cN<|cO<|cO<|eC<|bO kh3<|aS fun kh11=>aS fun ax=>?_
   obtain rfl:k=l.length:=aA
   rw [List.take_length] at hR;refine aI<|aB 1 rfl<|dU gL rfl<|aB 1 rfl<|aD ax<|aR ?_
   refine dA (α:=Nat×List Value×List Seg) [3,50] (fun ⟨j,vs,ms⟩=>[(51,.int .i64 (j:Int))]) (fun ⟨j,vs,ms⟩=>[[(b9,blk vs 25)],ms.flatten]) (fun ⟨j,vs,ms⟩=>j≤n∧RowsI 3 (jW n l j) vs ms) (fun ⟨j,vs,ms⟩=>n - j) (0,vs,ms) ?_ ?_ ?_ ?_
   · exact aF
   · exact aC
   · exact ⟨aA,by rw [mixRows_zero];exact hR⟩
   ·
    rintro ⟨j,vs,ms⟩ ⟨bv,hR⟩;refine fF (e:=[(51,_),(3,_),(50,_)]) aF ?_;refine aG fun kh13=>aB 1 rfl<|aD kh13<|aS fun kh14=>aX rfl (fun bg=>?_) (fun bg=>?_)
    ·
     refine bV kh14<|aS fun kh15=>aR<|aG fun kh16=>aB 2 rfl<|aD kh16<|aS fun kh17=>?_
     have hj:j<n:=aA
     obtain ⟨rv,rm,rG,ap,ah,au,ae⟩:=hR.split (i:=j) (by rw [mixRows_len];exact hj)
     rw [n9,if_neg aA] at ah;have ai:=qM (j:Int) l
     obtain ⟨rl,ab⟩:∃ rl,rl=l.flatMap (nbr (j:Int)):=⟨_,rfl⟩
     rw [← ab] at ah ai;obtain ⟨Ar,cr,rfl,bk⟩:=ah.val
     refine eP (Sub.splitF au)<|aI<|aB 2 rfl<|f_Q (aL gL rfl rfl (j))<|f_Q (aH Tryz.isAgg25 rfl (rdA ap)) ?_;refine f_S (d4 [rm] _ Tryz.call22 rfl (aM Sub.refl) (fun w_ aw=>j9 Ar cr rl rm w_ ah aA aw.owns) ?_);rintro _ _ ⟨rfl,m2,rfl,ba⟩;dsimp only [aK,aJ];refine aD kh17<|aI<|aB 4 rfl<|f_Q (aL gL rfl rfl (j))<|f_Q (aH Tryz.isAgg25 rfl (rdA ap)) ?_
     refine f_S (d4 [m2] _ Tryz.call24 rfl (aM Sub.refl) (fun w_ aw=>(by have h:=k8 Ar cr (gT rl) m2 w_ (by rw [e6];exact ba) (by rw [e6];omega) aw.owns;rw [e6] at h;exact h)) ?_);rintro bu _ ⟨m3,rfl,av⟩;obtain ⟨A3,c3,rfl,bw⟩:=av.val
     dsimp only [aK,aJ];refine f_Q (aL gL rfl rfl (j))<|f_Z (bU Tryz.sizeOf25 rfl rfl rfl rfl (by have:=hR.lv;rw [mixRows_len] at this;omega) (vs.set j (.slice A3 (cpt (gT rl)).length c3)) rfl ?_)
     refine aZ<|dF<|bO kh15<|aI<|f_Q (a8 rfl rfl)<|aB 1 rfl<|aZ<|f9 (Sub.joinF (m:=m3) (G' :=rG) (ae _ _ _ av).2) ?_
     refine cS (a6 (j+1,vs.set j (.slice A3 (cpt (gT rl)).length c3),ms.set j m3) (by first|omega|(dsimp only;omega)|(simp;omega)) ⟨aA,by have:=(ae _ _ _ av).1;rw [ab,mixRows_next] at this;rw [ab];exact this⟩ ?_ ?_ ?_)
     · exact aF
     · exact aF
     · exact aC
    ·
     refine cN<|cO<|cO<|eC<|bO kh11<|aS fun kh18=>?_
     obtain rfl:j=n:=aA
     rw [mixRows_all] at hR;refine aI<|aB 2 rfl<|aD kh18<|aY ?_
     exact bJ [[(b9,blk vs 25)],ms.flatten] Tryz.results168 rfl (by repeat (first|exact aP|refine aM ?_|refine cE rfl ?_)) ⟨b9,vs,ms,rfl,rfl,hR⟩
end Go.Proofs.YthpkelafioikaaaGreat
namespace Go.Proofs.YthpkelafioikaaaGreat.Fly
open Go Go.RowKit
set_option linter.unusedVariables false
set_option linter.unusedSimpArgs false
set_option linter.unusedSectionVars false
abbrev FW (rd:Option Nat):Fence:={ fn:=fun _=>True,depth:=none,alive:=false,round:=rd }
abbrev coll (mk:List Nat):List Deferred:=mk.map fun D=>{ target:= .collected D,args:= #[] }
abbrev mks (mk:List Nat):Seg:=mk.map fun D=>(D,Obj.deferred (some []))
structure EnR (n:Nat) (mk:List Nat) (env:Env) (a:Act):Prop where
 size:a.tmps.size=n
 defers:a.defers=coll mk
 get:∀ t v,look env t=some v→a.tmps[t]? =some v
theorem oG (a:Act) (F:List Deferred):({ a with defers:=F }:Act).eval=a.eval:=by funext x;cases x<;>rfl
section
variable {n:Nat} {mk:List Nat} {env:Env} {a:Act}
theorem EnR.base (h:EnR n mk env a):En n env { a with defers:=[] }:=⟨h.size,rfl,h.get⟩
theorem EnR.eval (h:EnR n mk env a) {x:Operand} {v:Value} (hx:ev env x=some v):a.eval x=v:=by
 have:=h.base.eval hx;rwa [oG] at this
theorem EnR.evals (h:EnR n mk env a) {l:List Operand} {vs:List Value} (hx:evs env l=some vs):l.map a.eval=vs:=by
 have:=h.base.evals hx;rwa [oG] at this
theorem EnR.put (h:EnR n mk env a) {d:Nat} (hd:Nat.blt d n=true) (v:Value):EnR n mk ((d,v)::env) (a.put (some d) v):=by
 have:=h.base.put hd v
 exact ⟨this.size,by simp [Act.put,h.defers],this.get⟩
theorem EnR.none (h:EnR n mk env a) (v:Value):EnR n mk env (a.put none v):=by simpa [Act.put] using h
theorem EnR.also (h:EnR n mk env a) {t:Nat} {v:Value} (hl:look env t=some v):EnR n mk ((t,v)::env) a:=by
 have:=h.base.also hl
 exact ⟨h.size,h.defers,this.get⟩
theorem EnR.keep (h:EnR n mk env a) (ts:List Nat):EnR n mk (Fly.keep ts env) a:=⟨h.size,h.defers,(h.base.keep ts).get⟩
theorem EnR.agree {e' :Env} (h:EnR n mk env a) {ts:List Nat} (hk:Agree ts env e'):EnR n mk (Fly.keep ts e') a:=⟨h.size,h.defers,(h.base.agree hk).get⟩
theorem EnR.has {b:Env} (h:EnR n mk env a) (hb:EnR n mk b a) {l:Env} (hl:Has env l):EnR n mk (l++b) a:=⟨h.size,h.defers,(h.base.has hb.base hl).get⟩
end
def nL:Op→Bool
 | .defer _=>false
 |_=>true
section
variable (P:Program) (n:Nat) (S:Nat→Prop) (w0:World) (rd:Option Nat) (mk:List Nat)
def WqR (R:Act→World→Prop) (env:Env) (segs:List Seg):Prop:=∀ a w,EnR n mk env a→Hp S w0 segs.flatten w→R a w
def WcR (Q:Exit→Act→World→Prop) (env:Env) (segs:List Seg) (c:Code):Prop:=∀ a w,EnR n mk env a→Hp S w0 segs.flatten w→c.wpIn (FW rd) 0 P Q a w
def WlR (ops:Array Oper) (Q:Exit→Act→World→Prop) (env:Env) (segs:List Seg) (l:List Oper):Prop:=
 ∀ a w,EnR n mk env a→Hp S w0 segs.flatten w→wpListIn (FW rd) 0 P ops Q l a w
def DoesR (env:Env) (segs:List Seg) (o:Oper) (K:Value→List Seg→Prop):Prop:=
 ∀ a w (next:Act→World→Prop) (Q:Exit→Act→World→Prop),EnR n mk env a→Hp S w0 segs.flatten w→
  (∀ v segs' w',K v segs'→Hp S w0 segs'.flatten w'→next (a.put o.dst v) w')→o.wpIn (FW rd) 0 P a w next Q
end
theorem wpIn_loop_ghost {F:Fence} {m:Nat} {P:Program} {Q:Exit→Act→World→Prop} {a:Act} {w:World} {c:Code} (I:Nat→Act→World→Prop) (J:Nat) (X:I J a w)
  (round:∀ n a w,I n a w→c.wpIn F m P (Exit.then (fun Y w' =>∃ U,U<n∧I U Y w') Q) a w):(Code.loop c).wpIn F m P Q a w:=by
 refine wpIn_loop (fun a w=>∃ n,I n a w) (fun a w=>leastOf (fun n=>I n a w)) ⟨J,X⟩ ?_;intro a w Z;refine wpIn_mono (round _ a w (leastOf_spec Z).1) ?_;intro e Y w' hq
 cases e with
 |normal=>
  obtain ⟨U,hlt,O⟩:=hq
  exact show (∃ n,I n Y w')∧leastOf (fun n=>I n Y w')<leastOf (fun n=>I n a w) from ⟨⟨U,O⟩,Nat.lt_of_le_of_lt ((leastOf_spec ⟨U,O⟩).2 U O) hlt⟩
 |exit id=>exact hq
 |goto l=>exact hq
 |ret=>exact hq
 |panic ch=>exact hq
 |outgrown=>exact hq
section
variable {P:Program} {n:Nat} {S:Nat→Prop} {w0:World} {rd:Option Nat} {mk:List Nat} {env:Env} {segs:List Seg} {Q:Exit→Act→World→Prop} {ops:Array Oper} {rest:List Oper} {o:Oper}
theorem nG (a:Act) (F:List Deferred) (d:Option Tmp) (v:Value):({ ({ a with defers:=[] }:Act).put d v with defers:=a.defers }:Act)=a.put d v:=by cases d<;>rfl
theorem Does.toR {K:Value→List Seg→Prop} (hn:nL o.op=true) (h:Does P n S w0 env segs o K):DoesR P n S w0 rd mk env segs o K:=by
 intro a w next Q ha hp hk
 have F:=h { a with defers:=[] } w (fun Y w' =>Y.defers=[]∧next { Y with defers:=a.defers } w') (fun _ _ _=>False) ha.base hp
  (fun v segs' w' Z U=>⟨by cases o.dst<;>rfl,by rw [nG a []];exact hk v segs' w' Z U⟩)
 unfold Oper.wp at F
 unfold Oper.wpIn
 refine ⟨fun _ _=>trivial,?_⟩;rw [Oper.semAt_eq _ _ _ (fun c hc=>by rw [hc] at hn;cases hn)];rw [oG] at F
 generalize (execOp a.eval o).run P w=r at F ⊢
 cases r with
 |halt hh w' =>
  cases hh<;>simp only [Oper.upon] at F
 |ok x w' =>
  cases x with
  |value v=>
   have:=F.2
   rw [nG a []] at this;exact this
  |skip=>
   have:=F.2
   rw [nG a []] at this;exact this
  |defer d=>
   have:=F.1
   cases hd:o.dst<;>simp [Act.put,hd] at this
  |enter f args=>
   have h1:Calls P f args w' _:=F
   refine ⟨(fun h=>by cases h),?_⟩
   show CallsIn Fence.wide 0 P f args w' _
   refine callsIn_wide.2 (Calls.mono h1 ?_);intro e J he
   cases e with
   |returned v=>
    have:=he.2
    rw [nG a []] at this;exact this
   |panicked ch=>exact he.elim
   |outgrown=>obtain ⟨_,_,hf⟩:=he;exact hf.elim
  |row r args=>
   have h1:Rows P r args w' _:=F
   refine ⟨(fun h=>by cases h),fun c cs _=>?_⟩;obtain ⟨v,J,hv,X⟩:=h1 c cs
   have O:=hv.2
   rw [nG a []] at O;exact ⟨v,J,O,(stepsIn_wide (P:=P)).2 X⟩
  |round l f tmps assign body=>exact F.elim
  |_=>exact F.elim
theorem fR {d:Nat} (hg:o.guard=none) (hd:o.dst=some d) (hn:Nat.blt d n=true)
  (h:DoesR P n S w0 rd mk env segs o fun v segs' =>WlR P n S w0 rd mk ops Q ((d,v)::env) segs' rest):WlR P n S w0 rd mk ops Q env segs (o::rest):=by
 intro a w ha hp;refine wpListIn_plain hg fun K J=>h a w K Q ha hp fun v segs' w' hk F=>J _ _ (hk _ _ ?_ F);rw [hd];exact ha.put hn v
theorem kS (hg:o.guard=none) (hd:o.dst=none)
  (h:DoesR P n S w0 rd mk env segs o fun _ segs' =>WlR P n S w0 rd mk ops Q env segs' rest):WlR P n S w0 rd mk ops Q env segs (o::rest):=by
 intro a w ha hp;refine wpListIn_plain hg fun K J=>h a w K Q ha hp fun v segs' w' hk F=>J _ _ (hk _ _ ?_ F);rw [hd];exact ha.none v
theorem aQ {d:Nat} {v:Value} (hg:o.guard=none) (hd:o.dst=some d) (hn:Nat.blt d n=true) (F:nL o.op=true) (hp:Pure P n S w0 env segs o v)
  (h:WlR P n S w0 rd mk ops Q ((d,v)::env) segs rest):WlR P n S w0 rd mk ops Q env segs (o::rest):=
 fR hg hd hn (Does.toR F (hp.does h))
theorem pC {d j t:Nat} {b:Bool} {v:Value} (hg:o.guard=some (j,b)) (hj:(ops[j]?).bind (·.dst)=some t) (hl:look env t=some (.bool b)) (hd:o.dst=some d) (hn:Nat.blt d n=true) (F:nL o.op=true) (hp:Pure P n S w0 env segs o v)
  (h:WlR P n S w0 rd mk ops Q ((d,v)::env) segs rest):WlR P n S w0 rd mk ops Q env segs (o::rest):=by
 intro a w ha hh;refine wpListIn_step fun K U=>?_;rw [if_pos (by simp [Region.wanted,hg,yielded,hj,ha.get _ _ hl])];exact (Does.toR F (hp.does (K:=fun u segs' =>u=v∧segs' =segs) ⟨rfl,rfl⟩):DoesR P n S w0 rd mk env segs o _) a w K Q ha hh fun u segs' w' ⟨O,hs⟩ J=>U _ _ (h _ _ (by rw [hd,O];exact ha.put hn v) (hs▸J))
theorem r_stepN {d j t:Nat} {b c:Bool} (hg:o.guard=some (j,b)) (hj:(ops[j]?).bind (·.dst)=some t) (hl:look env t=some (.bool c)) (hc:(c==b)=false) (hd:o.dst=some d) (hn:Nat.blt d n=true)
  (h:WlR P n S w0 rd mk ops Q ((d,undef)::env) segs rest):WlR P n S w0 rd mk ops Q env segs (o::rest):=by
 intro a w ha hp;refine wpListIn_step fun K F=>?_;have hne:c≠b:=by simpa using hc
 rw [if_neg (by simp [Region.wanted,hg,yielded,hj,ha.get _ _ hl,hne])];refine ⟨fun _ _=>trivial,F _ _ (h _ _ ?_ hp)⟩;rw [hd];exact ha.put hn undef
theorem dM (h:WqR n S w0 mk (Q .normal) env segs):WlR P n S w0 rd mk ops Q env segs []:=fun a w ha hp=>wpListIn_nil (h a w ha hp)
theorem cA {id:Nat} {l:List Oper} (h:WlR P n S w0 rd mk l.toArray Q env segs l):WcR P n S w0 rd mk Q env segs (.region id l.toArray false):=
 fun a w ha hp=>wpIn_region_lit (h a w ha hp)
theorem r_old {c:Code} (h:Wc P n S w0 Q env segs c):WcR P n S w0 none [] Q env segs c:=
 fun a w ha hp=>wpIn_wide.2 (h a w ⟨ha.size,ha.defers,ha.get⟩ hp)
theorem r_new {R:Act→World→Prop} (h:WqR n S w0 [] R env segs):Wq n S w0 R env segs:=fun a w ha hp=>h a w ⟨ha.size,ha.defers,ha.get⟩ hp
theorem r_splitL (t:Nat) {F:Prop} [Decidable F] {l:List Oper} (hl:look env t=some (.bool (decide F)))
  (hy:F→WlR P n S w0 rd mk ops Q ((t,.bool true)::env) segs l) (hn:¬ F→WlR P n S w0 rd mk ops Q ((t,.bool false)::env) segs l):WlR P n S w0 rd mk ops Q env segs l:=by
 intro a w ha hp
 by_cases h:F
 ·refine hy h a w (ha.also ?_) hp
  rw [hl,decide_eq_true h]
 ·refine hn h a w (ha.also ?_) hp
  rw [hl,decide_eq_false h]
theorem r_envC {e:Env} {c:Code} (he:Has env e) (h:WcR P n S w0 rd mk Q e segs c):WcR P n S w0 rd mk Q env segs c:=
 fun a w ha hp=>h a w (by
  have F:EnR n mk [] a:=⟨ha.size,ha.defers,fun t v hx=>by simp [look] at hx⟩
  have:=ha.has F he
  rwa [List.append_nil] at this) hp
theorem r_subC {out:List Seg} {c:Code} (hs:Sub segs out) (h:WcR P n S w0 rd mk Q env out c):WcR P n S w0 rd mk Q env segs c:=fun a w ha hp=>h a w ha (hp.sub hs)
theorem r_subQ {out:List Seg} {R:Act→World→Prop} (hs:Sub segs out) (h:WqR n S w0 mk R env out):WqR n S w0 mk R env segs:=fun a w ha hp=>h a w ha (hp.sub hs)
theorem dW {x y:Code} (h:∀ K:Act→World→Prop,(∀ env segs mk,WcR P n S w0 rd mk Q env segs y→WqR n S w0 mk K env segs)→WcR P n S w0 rd mk (Exit.then K Q) env segs x):
  WcR P n S w0 rd mk Q env segs (.seq x y):=
 fun a w ha hp=>wpIn_seq (h (y.wpIn (FW rd) 0 P Q) (fun _ _ _ hy O w' F J=>hy O w' F J) a w ha hp)
theorem kF {c:Operand} {x y:Code} {F:Prop} [Decidable F] (hc:ev env c=some (.bool (decide F))) (J:F→WcR P n S w0 rd mk Q env segs x) (hf:¬ F→WcR P n S w0 rd mk Q env segs y):
  WcR P n S w0 rd mk Q env segs (.cond c x y):=by
 intro a w ha hp;have he:=ha.eval hc
 by_cases h:F
 ·exact wpIn_cond_true (by rw [he,decide_eq_true h]) (J h a w ha hp)
 ·exact wpIn_cond_false (by rw [he,decide_eq_false h]) (hf h a w ha hp)
theorem r_condN {c:Operand} {x y:Code} {F:Prop} [Decidable F] (hc:ev env c=some (.bool (decide F))) (h:¬ F) (hf:WcR P n S w0 rd mk Q env segs y):WcR P n S w0 rd mk Q env segs (.cond c x y):=
 fun a w ha hp=>wpIn_cond_false ((ha.eval hc).trans (by rw [decide_eq_false h])) (hf a w ha hp)
theorem r_condT {c:Operand} {x y:Code} (hc:ev env c=some (.bool true)) (F:WcR P n S w0 rd mk Q env segs x):WcR P n S w0 rd mk Q env segs (.cond c x y):=
 fun a w ha hp=>wpIn_cond_true (ha.eval hc) (F a w ha hp)
theorem r_condB {c:Operand} {x y:Code} {b:Bool} (hc:ev env c=some (.bool b)) (F:b=true→WcR P n S w0 rd mk Q env segs x) (hf:b=false→WcR P n S w0 rd mk Q env segs y):
  WcR P n S w0 rd mk Q env segs (.cond c x y):=by
 intro a w ha hp;have he:=ha.eval hc
 cases b
 ·exact wpIn_cond_false he (hf rfl a w ha hp)
 ·exact wpIn_cond_true he (F rfl a w ha hp)
theorem gD {id:Nat} {c:Code} (h:WcR P n S w0 rd mk (Exit.inBlock id Q) env segs c):WcR P n S w0 rd mk Q env segs (.block id c):=fun a w ha hp=>wpIn_block (h a w ha hp)
theorem iT (h:WqR n S w0 mk (Q .normal) env segs):WcR P n S w0 rd mk Q env segs .skip:=fun a w ha hp=>wpIn_skip (h a w ha hp)
theorem nF (h:WqR n S w0 mk (Q .ret) env segs):WcR P n S w0 rd mk Q env segs .ret:=fun a w ha hp=>wpIn_ret (h a w ha hp)
theorem lF {id:Nat} (h:WqR n S w0 mk (Q (.exit id)) env segs):WcR P n S w0 rd mk Q env segs (.exit id):=fun a w ha hp=>wpIn_exit (h a w ha hp)
theorem d9 {K:Act→World→Prop} (h:WqR n S w0 mk K env segs):WqR n S w0 mk (Exit.then K Q .normal) env segs:=h
theorem r_tr {K:Act→World→Prop} (h:WqR n S w0 mk (Q .ret) env segs):WqR n S w0 mk (Exit.then K Q .ret) env segs:=h
theorem r_te {K:Act→World→Prop} {id:Nat} (h:WqR n S w0 mk (Q (.exit id)) env segs):WqR n S w0 mk (Exit.then K Q (.exit id)) env segs:=h
theorem r_bn {id:Nat} (h:WqR n S w0 mk (Q .normal) env segs):WqR n S w0 mk (Exit.inBlock id Q .normal) env segs:=h
theorem r_br {id:Nat} (h:WqR n S w0 mk (Q .ret) env segs):WqR n S w0 mk (Exit.inBlock id Q .ret) env segs:=h
theorem r_be {id:Nat} (h:WqR n S w0 mk (Q .normal) env segs):WqR n S w0 mk (Exit.inBlock id Q (.exit id)) env segs:=by
 intro a w ha hp;simpa [Exit.inBlock] using h a w ha hp
theorem r_bo {id F:Nat} (hne:Nat.beq F id=false) (h:WqR n S w0 mk (Q (.exit F)) env segs):WqR n S w0 mk (Exit.inBlock id Q (.exit F)) env segs:=by
 intro a w ha hp;have:F≠id:=fun e=>by subst e;simp at hne
 simpa [Exit.inBlock,this] using h a w ha hp
def AgainR {α:Type} (n:Nat) (S:Nat→Prop) (w0:World) (base:Env) (F:α→List Nat) (J:α→Env) (U:α→List Seg) (O:α→Prop) (X:α→Nat) (m:Nat) (a:Act) (w:World):Prop:=
 ∃ x,X x<m∧O x∧EnR n (F x) (J x++base) a∧Hp S w0 (U x).flatten w
theorem r_loop {α:Type} (F:α→List Nat) (ts:List Nat) (J:α→Env) (Y:α→List Seg) (O:α→Prop) (X:α→Nat) (U:α) {c:Code}
  (hm:F U=mk) (he:Has env (J U)) (hs:Sub segs (Y U)) (hi:O U)
  (round:∀ x,O x→WcR P n S w0 rd (F x) (Exit.then (AgainR n S w0 (keep ts env) F J Y O X (X x)) Q) (J x++keep ts env) (Y x) c):
  WcR P n S w0 rd mk Q env segs (.loop c):=by
 intro a w ha hp
 refine wpIn_loop_ghost (fun m a w=>∃ x,X x=m∧O x∧EnR n (F x) (J x++keep ts env) a∧Hp S w0 (Y x).flatten w) (X U)
  ⟨U,rfl,hi,hm▸ha.has (ha.keep ts) he,hp.sub hs⟩ ?_
 rintro m a' w' ⟨x,rfl,Z,ab,aa⟩;refine wpIn_mono (round x Z a' w' ab aa) ?_;intro e ac ad hq
 cases e with
 |normal=>
  obtain ⟨x',h1,h2,h3,h4⟩:=hq
  exact ⟨X x',h1,x',rfl,h2,h3,h4⟩
 |exit id=>exact hq
 |goto l=>exact hq
 |ret=>exact hq
 |panic ch=>exact hq
 |outgrown=>exact hq
theorem lM {α:Type} {J:α→List Nat} {ts:List Nat} {F:Env} {O:α→Env} {Y:α→List Seg} {U:α→Prop} {Z:α→Nat} {m:Nat} (x:α)
  (hm:Z x<m) (X:J x=mk) (hi:U x) (he:Has env (O x)) (hk:Agree ts env F) (hs:Sub segs (Y x)):
  WqR n S w0 mk (AgainR n S w0 (keep ts F) J O Y U Z m) env segs:=
 fun _ _ ha hp=>⟨x,hm,hi,X▸ha.has (ha.agree hk) he,hp.sub hs⟩
end
theorem r_meet {P:Program} {n:Nat} {S:Nat→Prop} {w0:World} {rd:Option Nat} {mk:List Nat} {env:Env} {segs:List Seg} {Q:Exit→Act→World→Prop} {α:Type} (ts:List Nat) (J:α→Env) (X:α→List Seg) (O:α→Prop) {x y:Code}
  (h1:∀ K:Act→World→Prop,(∀ env' segs' z,O z→Has env' (J z)→Agree ts env' env→Sub segs' (X z)→WqR n S w0 mk K env' segs')→WcR P n S w0 rd mk (Exit.then K Q) env segs x)
  (h2:∀ z,O z→WcR P n S w0 rd mk Q (J z++keep ts env) (X z) y):WcR P n S w0 rd mk Q env segs (.seq x y):=
 fun a w ha hp=>wpIn_seq (h1 (y.wpIn (FW rd) 0 P Q) (fun _ _ z hz he hk hs Y w' F U=>h2 z hz Y w' (F.has (F.agree hk) he) (U.sub hs)) a w ha hp)
theorem r_enter {P:Program} {f:FuncId} {fn:Func} {n:Nat} {args:List Value} {w:World} {own:List Seg} {Φ:Value→List Seg→Prop} {c:Code}
  (hf:P.funcs[f]? =some fn) (hb:fn.body=some c) (hn:fn.ntmps=n) (hl:Nat.ble args.length n=true) (ho:Owns w own)
  (h:WcR P n (Fr w own) w none [] (bodyPostM (FW none) 0 P fn (fV w own Φ)) (initEnv 0 args) own c):Meets P f args w own Φ:=by
 have J:args.length≤n:=Nat.le_of_ble_eq_true hl
 refine (callsIn_wide (n:=0)).1 (show CallsIn (FW none) 0 P f args.toArray w _ from callsIn_of_wp_marks hf hb trivial (h _ _ ⟨?_,rfl,fun t v F=>?_⟩ (Hp.start ho)) rfl)
 ·simp [hn];omega
 ·have ⟨_,h2⟩:=qN args 0 t v F
  simp only [Nat.sub_zero] at h2;have hlt:t<args.length:=(List.getElem?_eq_some_iff.1 h2).1
  rw [Array.getElem?_append_left (by simpa using hlt)]
  simpa using h2
theorem Hp.putObj {S:Nat→Prop} {w0 w:World} {D:Nat} {o:Obj} {r:Seg} (o' :Obj) (h:Hp S w0 ((D,o)::r) w):Hp S w0 ((D,o')::r) (w.putObj D o'):=by
 have h' :Hp S w0 (([]:Seg)++(D,o)::r) w:=h
 have:=Hp.put (w' :=w.putObj D o') h' rfl rfl rfl aN (Nat.le_refl _) (World.putObj_heap_same (h.key_lt (o:=o) aN)) (fun k hk=>World.putObj_heap_other hk)
 exact this
theorem Hp.tailR {S:Nat→Prop} {w0 w:World} {x:Nat×Obj} {r:Seg} (h:Hp S w0 (x::r) w):Hp S w0 r w:=by
 have h' :Hp S w0 ([x]++r) w:=h
 exact (h'.perm List.perm_append_comm).left
theorem qO {P:Program} {fn:Func} {tmps:Array Value} {R:Ending→World→Prop} {S:Nat→Prop} {w0:World} {out:Seg}:
  ∀ (mk:List Nat) (w:World),Hp S w0 (mks mk++out) w→(∀ w',Hp S w0 out w'→∃ v,(results fn tmps).run P w' = .ok v w'∧R (.returned v) w')→LeavesInM (FW none) 0 P fn tmps R (coll mk) .returning w
 |[],w,hp,h=>by
  obtain ⟨v,h1,h2⟩:=h w hp
  exact ⟨v,h1,h2⟩
 |D::mk,w,hp,h=>by
  refine ⟨aN,.inl ⟨D,w.putObj D (.deferred none),rfl,run_takeDeferred (hp.own D _ aN),?_⟩⟩;exact qO mk _ (Hp.tailR (Hp.putObj (.deferred none) hp)) h
section
variable {P:Program} {fn:Func} {n:Nat} {w:World} {own:List Seg} {Φ:Value→List Seg→Prop} {env:Env} {segs:List Seg} {mk:List Nat}
theorem r_fin0 (own' :List Seg) (hr:fn.results= #[]) (hs:Sub segs (mks mk::own')) (J:Φ (.tuple #[]) own'):WqR n (Fr w own) w mk (bodyPostM (FW none) 0 P fn (fV w own Φ) .ret) env segs:=fun a w' ha hp=>by
 show LeavesInM _ _ _ _ _ _ a.defers _ _
 rw [ha.defers];exact qO mk w' (out:=own'.flatten) (by simpa using hp.sub hs) fun O F=>⟨_,results_none hr _ _ _,_,own',rfl,F,J⟩
theorem r_fin0n (own' :List Seg) (hr:fn.results= #[]) (hs:Sub segs (mks mk::own')) (F:Φ (.tuple #[]) own'):WqR n (Fr w own) w mk (bodyPostM (FW none) 0 P fn (fV w own Φ) .normal) env segs:=
 r_fin0 own' hr hs F
theorem lE (own' :List Seg) {r s:Tmp} {v u:Value} (hr:fn.results= #[.tmp r,.tmp s]) (hv:look env r=some v) (O:look env s=some u) (hs:Sub segs (mks mk::own')) (J:Φ (.tuple #[v,u]) own'):
  WqR n (Fr w own) w mk (bodyPostM (FW none) 0 P fn (fV w own Φ) .ret) env segs:=fun a w' ha hp=>by
 show LeavesInM _ _ _ _ _ _ a.defers _ _
 rw [ha.defers];exact qO mk w' (out:=own'.flatten) (by simpa using hp.sub hs) fun U F=>⟨_,results_tmp2 hr _ _ _,_,own',rfl,F,by simp only [Array.getD_eq_getD_getElem?,ha.get _ _ hv,ha.get _ _ O];exact J⟩
end
theorem Hp.fz {S:Nat→Prop} {w0 w:World} {own fr:List Seg} (hp:Hp S w0 (own++fr).flatten w) (k:Nat) (hk:S k):Fr w own k∧w.heap[k]? =w0.heap[k]? :=by
 refine ⟨⟨Nat.lt_of_lt_of_le (hp.lt k hk) hp.size,fun hm=>?_⟩,hp.same k hk⟩;obtain ⟨⟨b',o⟩,hx,rfl⟩:=List.mem_map.1 hm
 rw [List.flatten_append] at hp;exact hp.out b' o (List.mem_append_left _ hx) hk
theorem rdG {S:Nat→Prop} {w0:World} {segs out:List Seg} {G:Seg} {b i:Nat} {cs:List Value} {T:TypeId} {v:Value} [pk:Pick segs G out] (F:(b,blk cs T)∈G) (hi:cs[i]? =some v):Rd S w0 segs b i v:=fun w hp=>by
 have hb:=hp.own b _ (pk.perm.symm.subset (List.mem_append_left _ F))
 simp [World.cell?,hb,hi]
theorem Sub.reg {segs out out' :List Seg} (h:Sub segs out) (e:out.flatten=out'.flatten):Sub segs out' :=by
 obtain ⟨rest,h⟩:=h;exact ⟨rest,by rw [← e];exact h⟩
theorem Sub.op2 {a m:Seg} {segs out parts:List Seg} (hm:m=parts.flatten) (h:Sub (a::(parts++segs)) out):Sub (a::m::segs) out:=by
 obtain ⟨rest,h⟩:=h
 exact ⟨rest,by subst hm;simpa using h⟩
theorem Sub.op3 {a b m:Seg} {segs out parts:List Seg} (hm:m=parts.flatten) (h:Sub (a::b::(parts++segs)) out):Sub (a::b::m::segs) out:=by
 obtain ⟨rest,h⟩:=h
 exact ⟨rest,by subst hm;simpa using h⟩
def YMeets (P:Program) (l:Nat) (args:List Value) (w:World) (own:List Seg) (Φ:Value→List Seg→Prop):Prop:=
 ∃ f tmps assign body,(Instr.yield l args.toArray).run P w= .ok (.round l f tmps assign body) w∧RoundIn (FW none) 0 P l f tmps assign body w (fV w own Φ)
section
variable {P:Program} {n:Nat} {S:Nat→Prop} {w0:World} {rd:Option Nat} {mk:List Nat} {env:Env} {segs:List Seg} {K:Value→List Seg→Prop} {d:Option Tmp} {ty:TypeId} {pos:String} {af:Array Edge} {g:Option (Nat×Bool)}
theorem o_yield (own fr:List Seg) {l:Nat} {x:Operand} {args:List Operand} {O:Array TypeId} {vs:List Value} {Φ:Value→List Seg→Prop}
  (hx:ev env x=some (.func (.yield l) #[] #[])) (ha:evs env args=some vs) (F:Sub segs (own++fr)) (J:∀ w,Hp S w0 (own++fr).flatten w→YMeets P l vs w own Φ) (k:∀ v own',Φ v own'→K v (own' ++fr)):
  DoesR P n S w0 rd mk env segs ⟨d,.call ⟨.value x,args.toArray,O⟩,ty,pos,af,g⟩ K:=by
 intro a w next Q hE hp hk
 obtain ⟨f,tmps,assign,body,U,hR⟩:=J w (hp.sub F)
 unfold Oper.wpIn
 refine ⟨fun _ _=>trivial,?_⟩;rw [Oper.semAt_eq _ _ _ (fun c hc=>by cases hc)]
 have X:(execOp a.eval ⟨d,.call ⟨.value x,args.toArray,O⟩,ty,pos,af,g⟩).run P w= .ok (.round l f tmps assign body) w:=by
  simp [execOp,resolve,Deferred.ofValue,invoke,hE.eval hx,hE.evals ha,U]
 rw [X];refine ⟨(fun h=>by cases h),?_⟩
 show RoundIn (FW none) 0 P l f tmps assign body w _
 refine RoundIn.mono hR ?_;rintro e w' ⟨v,own',rfl,Z,Y⟩;exact hk v _ w' (k v own' Y) ((hp.sub F).called Z)
end
structure LoopD where
 fn:FuncId
 tmps:Array Value
 params:Array Tmp
 assign:Code
 body:Code
 D:Nat
def LoopD.rc (d:LoopD) (J:LoopState) (F:Option Code):Loop:={ state:=J,pending:=F,fn:=d.fn,tmps:=d.tmps,params:=d.params,assign:=d.assign,body:=d.body,defers:=d.D }
abbrev l5 (l:Nat) (d:LoopD) (J:LoopState) (F:Option Code) (m:Seg):Seg:=(l,.loop (d.rc J F))::(d.D,.deferred (some []))::m
def YPost {β:Type} (l:Nat) (d:LoopD) (I Ix:List β→Seg→Prop) (cx:Code) (ys:List β) (u:Value) (own' :List Seg):Prop:=
 ∃ m',own' =[m']∧((u= .bool true∧∃ m,m' =l5 l d .ready none m∧I ys m)∨(u= .bool false∧∃ m,m' =l5 l d .done (some cx) m∧Ix ys m))
def IterAt {β:Type} (P:Program) (O:FuncId) (lb:List Value) (own:List Seg) (enc:β→Value) (may:List β→β→Prop) (Fin Stp:List β→List Seg→Prop) (m0:Seg) (w:World):Prop:=
 ∀ (l:Nat) (J F:List β→Seg→Prop),J [] m0→Owns w (m0::own)→
  (∀ ys y w' m,J ys m→may ys y→Owns w' [m]→(∀ k,Fr w (m0::own) k→Fr w' [m] k∧w'.heap[k]? =w.heap[k]?)→
   YMeets P l [enc y] w' [m] fun u own' =>∃ m',own' =[m']∧((u= .bool true∧J (ys++[y]) m')∨(u= .bool false∧F (ys++[y]) m')))→
  Meets P O (.func (.yield l) #[] #[]::lb) w (m0::own) fun u own' =>u= .tuple #[]∧∃ m' o',own' =m' ::o'∧((∃ ys,Fin ys o'∧J ys m')∨(∃ ys,Stp ys o'∧F ys m'))
section
variable {P:Program} {n:Nat} {S' :Nat→Prop} {w' :World} {env:Env} {segs:List Seg} {β:Type} {l:Nat} {d:LoopD} {I Ix:List β→Seg→Prop} {cx:Code} {ys:List β} {m m' :Seg}
theorem qF (hs:Sub segs [[(l,.loop (d.rc .busy none))],[(d.D,.deferred (some []))],m']) (J:I ys m'):
  WqR n (Fr w' [l5 l d .ready none m]) w' [] (roundPost P l (fV w' [l5 l d .ready none m] (YPost l d I Ix cx ys)) .normal) env segs:=fun a w ha hp=>by
 have F:Hp (Fr w' [l5 l d .ready none m]) w' ((l,Obj.loop (d.rc .busy none))::((d.D,.deferred (some []))::m')) w:=by simpa using hp.sub hs
 refine ⟨_,_,run_endRound none (F.own l _ (List.mem_cons_self ..)),.bool true,[l5 l d .ready none m'],rfl,?_,⟨_,rfl,.inl ⟨rfl,_,rfl,J⟩⟩⟩;have:=Hp.putObj (.loop (d.rc .ready none)) F
 rw [List.flatten_cons,List.flatten_nil,List.append_nil];exact this
theorem r_roundOut {e:Exit} (he:(e= .ret∧cx= .ret)∨∃ id,e= .exit id∧cx= .exit id) (hs:Sub segs [[(l,.loop (d.rc .busy none))],[(d.D,.deferred (some []))],m']) (J:Ix ys m'):
  WqR n (Fr w' [l5 l d .ready none m]) w' [] (roundPost P l (fV w' [l5 l d .ready none m] (YPost l d I Ix cx ys)) e) env segs:=fun a w ha hp=>by
 have F:Hp (Fr w' [l5 l d .ready none m]) w' ((l,Obj.loop (d.rc .busy none))::((d.D,.deferred (some []))::m')) w:=by simpa using hp.sub hs
 have hq:=Hp.putObj (.loop (d.rc .done (some cx))) F
 rcases he with ⟨rfl,rfl⟩|⟨id,rfl,rfl⟩
 ·exact ⟨_,_,run_endRound (some .ret) (F.own l _ (List.mem_cons_self ..)),.bool false,[l5 l d .done (some .ret) m'],rfl,(by rw [List.flatten_cons,List.flatten_nil,List.append_nil];exact hq),⟨_,rfl,.inr ⟨rfl,_,rfl,J⟩⟩⟩
 ·exact ⟨_,_,run_endRound (some (.exit id)) (F.own l _ (List.mem_cons_self ..)),.bool false,[l5 l d .done (some (.exit id)) m'],rfl,(by rw [List.flatten_cons,List.flatten_nil,List.append_nil];exact hq),⟨_,rfl,.inr ⟨rfl,_,rfl,J⟩⟩⟩
end
section
variable {P:Program} {n:Nat} {S:Nat→Prop} {w0:World} {mk:List Nat} {env:Env} {segs:List Seg} {Q:Exit→Act→World→Prop}
theorem r_range {β:Type} {g:Operand} {p:Tmp} {assign body:Code} {Z:FuncId} {lb:List Value} (hg:ev env g=some (.func (.func Z) #[] lb.toArray))
  (hc:∀ args w,(callFunc Z args).run P w= .ok (.enter Z args) w) (hn:Nat.blt p n=true) (C own fr:List Seg) (hs:Sub segs (C++(own++fr)))
  (enc:β→Value) {may:List β→β→Prop} {Fin Stp:List β→List Seg→Prop}
  (ap:∀ w1 m0,Hp S w0 (m0::(own++fr)).flatten w1→IterAt P Z lb own enc may Fin Stp m0 w1)
  (I Ix:List β→Seg→Prop) (cx:Code) (h0:I [] C.flatten)
  (Y:∀ (w' :World) (l:Nat) (d:LoopD) (ys:List β) (y:β) (m:Seg),I ys m→may ys y→(∀ k,S k→Fr w' [l5 l d .ready none m] k∧w'.heap[k]? =w0.heap[k]?)→
   ∀ K:Act→World→Prop,(∀ env' rest,WcR P n (Fr w' [l5 l d .ready none m]) w' (some l) [] (roundPost P l (fV w' [l5 l d .ready none m] (YPost l d I Ix cx (ys++[y])))) env' ([(l,.loop (d.rc .busy none))]::rest) body→
     WqR n (Fr w' [l5 l d .ready none m]) w' [] K env' ([(l,.loop (d.rc .ready none))]::rest))→
    WcR P n (Fr w' [l5 l d .ready none m]) w' (some l) [] (Exit.then K fun _ _ _=>False) ((p,enc y)::env) [[(l,.loop (d.rc .ready none))],[(d.D,.deferred (some []))],m] assign)
  (ac:∀ D ys m o',Fin ys o'→I ys m→WqR n S w0 (D::mk) (Q .normal) env ([(D,.deferred (some []))]::m::(o' ++fr)))
  (ab:∀ D ys m o',Stp ys o'→Ix ys m→WcR P n S w0 none (D::mk) Q env ([(D,.deferred (some []))]::m::(o' ++fr)) cx):
  WcR P n S w0 none mk Q env segs (.rangeFunc g #[p] assign body):=by
 intro a w ha hp;refine wpIn_rangeFunc ?_;intro fn _;obtain ⟨d,hd⟩:∃ d:LoopD,d=⟨fn,a.tmps,#[p],assign,body,w.heap.size⟩:=⟨_,rfl⟩
 obtain ⟨l,hl⟩:∃ l,l=w.heap.size+1:=⟨_,rfl⟩
 obtain ⟨O,ag⟩:∃ O,O=(w.alloc (.deferred (some []))).alloc (.loop (d.rc .ready none)):=⟨_,rfl⟩
 have hD:d.D=w.heap.size:=by rw [hd]
 have F:Hp S w0 (l5 l d .ready none C.flatten::(own++fr)).flatten O:=by
  have h1:=(Hp.alloc (hp.sub hs) (.deferred (some []))).alloc (.loop (d.rc .ready none))
  rw [World.size_alloc,← hl,← ag,← hD] at h1
  simpa using h1
 refine ⟨l,[{ target:= .collected w.heap.size,args:= #[] }],O,{ target:= .fn (.func Z) lb.toArray,args:= #[.func (.yield l) #[] #[]] },O,Z,
  (.func (.yield l) #[] #[]::lb).toArray,O,?_,?_,fun _ _=>trivial,?_,(fun h=>by cases h),?_⟩
 ·have:=run_enterLoop_outer (P:=P) (w:=w) fn a.tmps #[p] assign body
  rw [hl,ag,hd];exact this
 ·simp [resolve,Deferred.ofValue,ha.eval hg]
  simp [Act.eval]
 ·simp [invoke,hc]
 have aj:Owns O (l5 l d .ready none C.flatten::own):=Hp.owns (fr:=fr) F
 have aa:∀ k,S k→Fr O (l5 l d .ready none C.flatten::own) k∧O.heap[k]? =w0.heap[k]? :=fun k hk=>by
  refine ⟨⟨Nat.lt_of_lt_of_le (F.lt k hk) F.size,fun hm=>?_⟩,F.same k hk⟩;obtain ⟨⟨b',o⟩,hx,rfl⟩:=List.mem_map.1 hm
  refine F.out b' o ?_ hk;have e:(l5 l d .ready none C.flatten::(own++fr))=(l5 l d .ready none C.flatten::own)++fr:=rfl
  rw [e,List.flatten_append];exact List.mem_append_left _ hx
 have hM:=ap O _ F l (fun ys m=>∃ m',m=l5 l d .ready none m'∧I ys m') (fun ys m=>∃ m',m=l5 l d .done (some cx) m'∧Ix ys m') ⟨_,rfl,h0⟩ aj ?_
 ·show CallsIn Fence.wide 0 P Z _ O _
  refine callsIn_wide.2 (Calls.mono hM ?_);rintro e w3 ⟨v,own',rfl,an,rfl,m',o',rfl,am⟩;have ak:=Hp.called (own:=l5 l d .ready none C.flatten::own) (fr:=fr) F an
  have hE:EnR n (w.heap.size::mk) env { a with defers:=[{ target:= .collected w.heap.size,args:= #[] }]++a.defers }:=⟨ha.size,by simp [ha.defers],ha.get⟩
  rcases am with ⟨ys,hF,m,rfl,hI⟩|⟨ys,hF,m,rfl,hI⟩
  ·have U:Hp S w0 ((l,Obj.loop (d.rc .ready none))::((d.D,.deferred (some []))::(m++(o' ++fr).flatten))) w3:=by simpa using ak
   refine ⟨none,_,run_endLoop (U.own l _ (List.mem_cons_self ..)) (by simp [LoopD.rc]),?_⟩;have J:=Hp.tailR (Hp.putObj (.loop { d.rc .ready none with state:= .exhausted }) U)
   rw [hD] at J;exact ac w.heap.size ys m o' hF hI _ _ hE (by simpa using J)
  ·have U:Hp S w0 ((l,Obj.loop (d.rc .done (some cx)))::((d.D,.deferred (some []))::(m++(o' ++fr).flatten))) w3:=by simpa using ak
   refine ⟨some cx,_,run_endLoop (U.own l _ (List.mem_cons_self ..)) (by simp [LoopD.rc]),?_⟩;have J:=Hp.tailR (Hp.putObj (.loop { d.rc .done (some cx) with state:= .exhausted }) U)
   rw [hD] at J;exact ab w.heap.size ys m o' hF hI _ _ hE (by simpa using J)
 ·rintro ys y w' _ ⟨m,rfl,hI⟩ ah X ad
  refine ⟨fn,a.tmps.setIfInBounds p (enc y),assign,body,?_,?_⟩
  ·have hy:=run_yield (P:=P) (w:=w') (l:=l) (r:=d.rc .ready none) (args:= #[enc y]) (X.there l _ aN) (by rw [hd];rfl)
   rw [hd] at hy
   simpa [LoopD.rc] using hy
  ·refine RoundIn.mono (R:=fV w' [l5 l d .ready none m] (YPost l d I Ix cx (ys++[y]))) (roundIn_of_wpIn trivial ?_) ?_
   ·refine Y w' l d ys y m hI ah (fun k hk=>⟨(ad k (aa k hk).1).1,(ad k (aa k hk).1).2.trans (aa k hk).2⟩) _ ?_ _ w' ?_ (by simpa using Hp.start X)
    ·intro env' rest hb a1 w1 aq ai
     have ae:Hp (Fr w' [l5 l d .ready none m]) w' ((l,Obj.loop (d.rc .ready none))::rest.flatten) w1:=by simpa using ai
     refine ⟨_,run_beginRound (ae.own l _ (List.mem_cons_self ..)) rfl,hb _ _ aq ?_⟩;have:=Hp.putObj (.loop (d.rc .busy none)) ae
     rw [List.flatten_cons,List.singleton_append];exact this
    ·have:=ha.put hn (enc y)
     exact ⟨by simpa [Act.put] using this.size,rfl,by simpa [Act.put] using this.get⟩
   ·rintro e ar ⟨v,own',rfl,al,m',rfl,ao⟩
    exact ⟨v,_,rfl,al,m',rfl,ao⟩
end
end Go.Proofs.YthpkelafioikaaaGreat.Fly
namespace Go.Proofs.YthpkelafioikaaaGreat
open Go Go.RowKit Fly
set_option maxRecDepth 100000
set_option maxHeartbeats 4000000
set_option linter.all false
abbrev gA (l:List Bool):List Value:=l.map .bool
theorem boolsG_set (l:List Bool) (i:Nat) (b:Bool):(gA l).set i (.bool b)=gA (l.set i b):=by simp [gA,List.map_set]
theorem boolsG_at {l:List Bool} {i:Nat} (h:i<l.length):(gA l)[i]? =some (.bool (l.getD i false)):=by simp [List.getD_eq_getElem?_getD,h]
abbrev arSegs (n c F bo J O U:Nat) (b:List Bool) (vs:List Value) (G:Seg):List Seg:=
 [[(U,blk [.slice (some ⟨F,0,none⟩) n n] 37)],[(O,blk [.int .i64 (c:Int)] 3)],[(J,blk [.slice (some ⟨bo,0,none⟩) n n] 32)],[(F,blk (gA b) 4)],[(bo,blk vs 25)],G]
def arMay (F:BSt) (ys:List Int) (y:Int):Prop:=∃ k,∃ h:k<F.1.length,ys=F.1.take k∧y=F.1[k]
def arFin (F:BSt) (n c J bo O U X:Nat) (vs:List Value) (G:Seg) (ys:List Int) (o:List Seg):Prop:=ys=F.1∧o=arSegs n c J bo O U X F.2 vs G
def arStp (F:BSt) (n c J bo O U X:Nat) (vs:List Value) (G:Seg) (ys:List Int) (o:List Seg):Prop:=∃ k,k<F.1.length∧ys=F.1.take (k+1)∧∃ b',b'.length=n∧o=arSegs n c J bo O U X b' vs G
theorem drop_cons_of {α:Type} {l:List α} {k:Nat} (h:k<l.length):l.drop k=l[k]::l.drop (k+1):=(List.getElem_cons_drop h).symm
theorem row_blk {E:TypeId} {F:List (List Int)} {vs:List Value} {ms:List Seg} (O:RowsI E F vs ms) {i:Nat} (hi:i<F.length):∃ A c,vs[i]? =some (.slice A F[i].length c)∧(0<F[i].length→∃ J sp,A=some ⟨J,0,none⟩∧(J,blk (bF F[i]++sp) E)∈ms.flatten):=by
 have ho:=O.own i hi
 obtain ⟨A,c,e,_⟩:=ho.val
 rw [e] at ho;refine ⟨A,c,by rw [List.getElem?_eq_getElem (by rw [O.lv];exact hi),e],fun hl=>?_⟩;obtain ⟨J,sp,rfl,hm⟩:=ho.at_ hl
 exact ⟨J,sp,rfl,List.mem_flatten.2 ⟨_,List.getElem_mem (by rw [O.lm];exact hi),by rw [hm];simp⟩⟩
theorem around_spec (n bo F:Nat) (c:Int) (w:World):
    Meets Tryz.prog 169 [.slice (some ⟨bo,0,none⟩) n n,.int .i64 c,.slice (some ⟨F,0,none⟩) n n] w [] (fun u own' =>∃ J U O,u= .func (.func 188) #[] #[.pointer (some ⟨O,0,none⟩),.pointer (some ⟨U,0,none⟩),.pointer (some ⟨J,0,none⟩)]∧own' =[[(O,blk [.slice (some ⟨F,0,none⟩) n n] 37)],[(U,blk [.int .i64 c] 3)],[(J,blk [.slice (some ⟨bo,0,none⟩) n n] 32)]]):=by
 refine bE Tryz.func169 rfl Tryz.ntmps169 rfl Owns.nil<|aG fun kh1=>f_S (cT rfl rfl fun J=>?_)
 refine f_S (cT rfl rfl fun U=>?_);refine f_S (cT rfl rfl fun O=>?_);refine aB 1 rfl<|aD kh1<|aG fun kh2=>f_Q (kT rfl rfl)<|aB 1 rfl<|aD kh2<|aY ?_
 exact bJ [[(O,blk [.slice (some ⟨F,0,none⟩) n n] 37)],[(U,blk [.int .i64 c] 3)],[(J,blk [.slice (some ⟨bo,0,none⟩) n n] 32)]] Tryz.results169 rfl aC ⟨J,U,O,rfl,rfl⟩
theorem rB (n c O bo b3 b4 b5:Nat) (l:List Arc) (b0:List Bool) (vs:List Value) (ms:List Seg) (m0:Seg) (w:World) (cu:b0.length=n) (hc:c<n) (hn:n≤1024) (hR:RowsI 3 (nrows n l) vs ms) (an:∀ v,v<n→∀ u∈dS (v:Int) l,0≤u∧u<(n:Int)) (bR:∀ v:Nat,(dS (v:Int) l).length≤8192):
    IterAt Tryz.prog 188 [.pointer (some ⟨b5,0,none⟩),.pointer (some ⟨b4,0,none⟩),.pointer (some ⟨b3,0,none⟩)] (arSegs n c O bo b3 b4 b5 b0 vs ms.flatten) (fun y:Int=> .int .i64 y) (arMay (bfs n (fun v:Nat=>dS (v:Int) l) c b0)) (arFin (bfs n (fun v:Nat=>dS (v:Int) l) c b0) n c O bo b3 b4 b5 vs ms.flatten) (arStp (bfs n (fun v:Nat=>dS (v:Int) l) c b0) n c O bo b3 b4 b5 vs ms.flatten) m0 w:=by
 intro l_ J Jx co a2 hY;have c3:vs.length=n:=by have:=hR.lv;rwa [nrows_len] at this
 have cm:BInv n (fM c b0):=BInv.start cu hc
 refine r_enter Tryz.func188 rfl Tryz.ntmps188 rfl a2 ?_;refine dW fun K1 bD=>?_;refine cA ?_;refine aQ rfl rfl rfl rfl (aH Tryz.isAgg37 rfl (rdA rfl)) ?_;refine aQ rfl rfl rfl rfl (aH Tryz.isAgg3 rfl (rdA rfl)) ?_;refine aQ rfl rfl rfl rfl (aL o9 rfl rfl (c)) ?_;refine kS rfl rfl (Does.toR rfl (bU Tryz.sizeOf4 rfl rfl rfl rfl (by simp [gA];omega) (gA (b0.set c true)) (boolsG_set ..) ?_));refine dM ?_;refine d9 (bD _ _ _ ?_);refine dW fun K2 cB=>?_;refine cA ?_;refine aQ rfl rfl rfl rfl (aH Tryz.isAgg3 rfl (rdA rfl)) ?_;refine fR rfl rfl rfl (Does.toR rfl (bQ eL aA rfl rfl rfl fun bk=>?_));refine aQ rfl rfl rfl rfl (bI rfl) ?_;refine dM ?_;refine d9 (cB _ _ _ ?_);refine gD ?_;refine r_loop (α:=Nat×Value×Seg×Seg) (fun ⟨k,qv,qm,mJ⟩=>[]) [0,1,3] (fun ⟨k,qv,qm,mJ⟩=>[(5,qv)]) (fun ⟨k,qv,qm,mJ⟩=>[[(b5,blk [.slice (some ⟨O,0,none⟩) n n] 37)],[(b4,blk [.int .i64 (c:Int)] 3)],[(b3,blk [.slice (some ⟨bo,0,none⟩) n n] 32)],[(O,blk (gA (bgo (fun v:Nat=>dS (v:Int) l) (fM c b0) k).2) 4)],[(bo,blk vs 25)],ms.flatten,qm,mJ]) (fun ⟨k,qv,qm,mJ⟩=>k≤(bgo (fun v:Nat=>dS (v:Int) l) (fM c b0) k).1.length∧OwnQ 3 qv (bF ((bgo (fun v:Nat=>dS (v:Int) l) (fM c b0) k).1.drop k)) qm∧J ((bfs n (fun v:Nat=>dS (v:Int) l) c b0).1.take k) mJ) (fun ⟨k,qv,qm,mJ⟩=>n - k) (0,.slice (some ⟨bk,0,none⟩) 1 1,[(bk,blk [.int .i64 (c:Int)] 3)],m0) rfl ?_ ?_ ?_ ?_
 ·exact aF
 ·exact aC
 ·exact ⟨Nat.zero_le _,OwnQ.one _ _ _,by rw [List.take_zero];exact co⟩
 ·rintro ⟨k,qv,qm,mJ⟩ ⟨bC,hQ,hJ⟩;have hI:=BInv.go an cm k
  have b7:=hI.out
  obtain ⟨X,ac⟩:∃ X,X=bgo (fun v:Nat=>dS (v:Int) l) (fM c b0) k:=⟨_,rfl⟩
  dsimp only;rw [← ac] at bC hQ hI b7 ⊢;have cv:=hQ
  have bY:=a7 (X.1.drop k)
  rw [List.length_drop] at bY;obtain ⟨bw,ow,cw,pre,sp,rfl,rfl,cM,c6,c0,cz⟩:=hQ
  refine dW fun K3 cq=>?_;refine dW fun K4 cd=>?_;refine cA ?_;refine aQ rfl rfl rfl rfl (aU rfl) ?_;refine aQ rfl rfl rfl rfl (iH bX rfl) ?_;refine aQ rfl rfl rfl rfl (o_gtr rfl rfl) ?_;refine dM ?_;refine d9 (cd _ _ _ ?_);refine kF rfl (fun b9=>?_) (fun b9=>?_)
  ·have Z:k<X.1.length:=aA
   have al:=cz aA
   obtain ⟨v,hv⟩:∃ v,v=X.1[k]:=⟨_,rfl⟩
   have bp:X.1.drop k=v::X.1.drop (k+1):=by rw [hv];exact drop_cons_of Z
   have bM:=hI.rng _ (List.getElem_mem Z)
   rw [← hv] at bM;obtain ⟨F,rfl⟩:∃ F:Nat,v=(F:Int):=⟨v.toNat,aA⟩
   have bt:F<n:=aA
   obtain ⟨bv,cy⟩:=bgo_get (n:=n) (rows:=(fun v:Nat=>dS (v:Int) l)) (s:=fM c b0) (k:=k) aA (by rw [← ac];exact Z)
   have av:k<(bfs n (fun v:Nat=>dS (v:Int) l) c b0).1.length:=bv
   have am:(bfs n (fun v:Nat=>dS (v:Int) l) c b0).1[k]=(F:Int):=by rw [hv];refine cy.trans ?_;simp only [ac]
   have az:(bfs n (fun v:Nat=>dS (v:Int) l) c b0).1.take k++[(F:Int)]=(bfs n (fun v:Nat=>dS (v:Int) l) c b0).1.take (k+1):=by rw [List.take_succ_eq_append_getElem av,am]
   refine iT ?_;refine d9 (cq _ _ _ ?_);refine dW fun K5 b6=>?_;refine gD ?_;refine dW fun K6 bK=>?_;refine dW fun K7 b8=>?_;refine cA ?_;refine aQ rfl rfl rfl rfl (aU rfl) ?_;refine aQ rfl rfl rfl rfl (aU rfl) ?_;refine aQ rfl rfl rfl rfl (aL bX rfl rfl (ow)) ?_;refine aQ rfl rfl rfl rfl (aH Tryz.isAgg3 rfl (rdA (v:= .int .i64 (F:Int)) (by rw [← al,bp];simp [bF]))) ?_;refine fR rfl rfl rfl (o_yield [mJ] _ rfl rfl (by repeat (first|exact Sub.refl|refine aM ?_)) (fun w_ hp_=>hY _ (F:Int) w_ mJ hJ ⟨k,av,rfl,am.symm⟩ hp_.owns (fun k hk=>hp_.fz k hk)) ?_);rintro v22 _ ⟨m2,rfl,ce⟩
   obtain ⟨bb,rfl,bu⟩:∃ bb,v22= .bool bb∧((bb=true∧J ((bfs n (fun v:Nat=>dS (v:Int) l) c b0).1.take k++[(F:Int)]) m2)∨(bb=false∧Jx ((bfs n (fun v:Nat=>dS (v:Int) l) c b0).1.take k++[(F:Int)]) m2)):=by
     rcases ce with ⟨rfl,h⟩|⟨rfl,h⟩
     ·exact ⟨_,rfl,.inl ⟨rfl,h⟩⟩
     ·exact ⟨_,rfl,.inr ⟨rfl,h⟩⟩
   dsimp only [aK,aJ];refine aQ rfl rfl rfl rfl (o_not rfl) ?_;refine dM ?_;refine d9 (b8 _ _ _ ?_);refine r_condB rfl (fun ae=>?_) (fun ae=>?_)
   ·refine nF ?_;refine r_tr ?_;refine r_br ?_;refine r_tr ?_;refine r_tr ?_;refine r_br ?_;have bg:Jx _ m2:=(bu.resolve_left (fun h=>by rw [h.1] at ae;cases ae)).2
    exact r_fin0 [m2,[(b5,blk [.slice (some ⟨O,0,none⟩) n n] 37)],[(b4,blk [.int .i64 (c:Int)] 3)],[(b3,blk [.slice (some ⟨bo,0,none⟩) n n] 32)],[(O,blk (gA X.2) 4)],[(bo,blk vs 25)],ms.flatten] Tryz.results188 aC ⟨rfl,m2,_,rfl,.inr ⟨_,⟨k,av,az,X.2,hI.len,rfl⟩,bg⟩⟩
   ·refine iT ?_;refine d9 (bK _ _ _ ?_);refine dW fun K8 bW=>?_;have ct:J _ m2:=(bu.resolve_right (fun h=>by rw [h.1] at ae;cases ae)).2
    obtain ⟨Ar,cr,bq,ai⟩:=row_blk hR (i:=F) (by rw [nrows_len];exact bt)
    rw [nrows_get] at bq ai;have cH:=bR F
    refine r_old ?_;refine gV rfl aW<|gC Tryz.isAgg32 rfl (rdA rfl)<|dI 1 rfl<|dB (aL bX rfl rfl (ow))<|dB (aH Tryz.isAgg3 rfl (rdA (v:= .int .i64 (F:Int)) (by rw [← al,bp];simp [bF]))) ?_
    refine dB (aL gL rfl rfl (F))<|dB (aH Tryz.isAgg25 rfl (rdA bq))<|dB (iH bX rfl)<|dI 1 rfl<|eI ?_
    refine r_new ?_;refine d9 (bW _ _ _ ?_);refine gD ?_;refine r_loop (α:=Nat×BSt×Value×Seg) (fun ⟨j,U,Y,aa⟩=>[]) [0,1,3,29,30] (fun ⟨j,U,Y,aa⟩=>[(31,.int .i64 (j:Int)),(5,Y)]) (fun ⟨j,U,Y,aa⟩=>[[(b5,blk [.slice (some ⟨O,0,none⟩) n n] 37)],[(b4,blk [.int .i64 (c:Int)] 3)],[(b3,blk [.slice (some ⟨bo,0,none⟩) n n] 32)],[(O,blk (gA U.2) 4)],[(bo,blk vs 25)],ms.flatten,aa,m2]) (fun ⟨j,U,Y,aa⟩=>j≤(dS (F:Int) l).length∧U=i1 ((dS (F:Int) l).take j) X∧BInv n U∧X.1.length≤U.1.length∧OwnQ 3 Y (bF (U.1.drop k)) aa) (fun ⟨j,U,Y,aa⟩=>(dS (F:Int) l).length - j) (0,X,.slice (some ⟨bw,ow,none⟩) (bF (X.1.drop k)).length cw,[(bw,blk (pre++(bF (X.1.drop k)++sp)) 3)]) rfl ?_ ?_ ?_ ?_
    ·exact aF
    ·exact aC
    ·exact ⟨Nat.zero_le _,rfl,hI,Nat.le_refl _,cv⟩
    ·rintro ⟨j,U,Y,aa⟩ ⟨c1,ad,ag,b1,ah⟩;have cK:=ag.out
     refine r_envC (e:=[(31,_),(5,_),(0,_),(1,_),(3,_),(29,_),(30,_)]) aF ?_;refine dW fun K9 ck=>?_;refine cA ?_;refine aQ rfl rfl rfl rfl (o_lss rfl rfl) ?_;refine dM ?_;refine d9 (ck _ _ _ ?_);refine dW fun cW bj=>?_;refine kF rfl (fun cp=>?_) (fun cp=>?_)
     ·refine iT ?_;refine d9 (bj _ _ _ ?_);refine dW fun cR ak=>?_;refine gD ?_;refine dW fun c5 ay=>?_;refine cA ?_;have hj:j<(dS (F:Int) l).length:=aA
      obtain ⟨br,c4,rfl,cg⟩:=ai aA
      have b2:=an F bt _ (List.getElem_mem hj)
      obtain ⟨un,ao⟩:∃ un:Nat,(dS (F:Int) l)[j]=(un:Int):=⟨((dS (F:Int) l)[j]).toNat,aA⟩
      refine aQ rfl rfl rfl rfl (aL bX rfl rfl (j)) ?_;refine aQ rfl rfl rfl rfl (aH Tryz.isAgg3 rfl (rdG (v:= .int .i64 ((un:Nat):Int)) cg (eF (by rw [eG hj,ao])))) ?_;refine aQ rfl rfl rfl rfl (bI rfl) ?_;refine dM ?_;refine d9 (ay _ _ _ ?_);refine dW fun cY ba=>?_;refine cA ?_;refine aQ rfl rfl rfl rfl (aH Tryz.isAgg37 rfl (rdA rfl)) ?_;refine aQ rfl rfl rfl rfl (aU rfl) ?_;refine aQ rfl rfl rfl rfl (aL o9 rfl rfl (un)) ?_;refine aQ rfl rfl rfl rfl (aH Tryz.isAgg4 rfl (rdA (boolsG_at (by rw [ag.len];omega)))) ?_;refine aQ rfl rfl rfl rfl (o_not rfl) ?_;refine dM ?_;refine d9 (ba _ _ _ ?_);refine r_condB rfl (fun ar=>?_) (fun ar=>?_)
      ·have au:U.2.getD un false=false:=by simpa using ar
       have bc:(U.1++[((un:Nat):Int)],U.2.set un true)=i1 ((dS (F:Int) l).take (j+1)) X:=by rw [rA hj,← ad,jE,ao,Int.toNat_natCast,if_neg (by rw [au];simp)]
       refine dW fun c2 a1=>?_;refine cA ?_;refine aQ rfl rfl rfl rfl (aH Tryz.isAgg37 rfl (rdA rfl)) ?_;refine aQ rfl rfl rfl rfl (aU rfl) ?_;refine aQ rfl rfl rfl rfl (aL o9 rfl rfl (un)) ?_;refine kS rfl rfl (Does.toR rfl (bU Tryz.sizeOf4 rfl rfl rfl rfl (by have:=ag.len;simp [gA];omega) (gA (U.2.set un true)) (boolsG_set ..) ?_));refine dM ?_;refine d9 (a1 _ _ _ ?_);refine cA ?_;refine aQ rfl rfl rfl rfl (aU rfl) ?_;refine aQ rfl rfl rfl rfl (aU rfl) ?_;refine fR rfl rfl rfl (Does.toR rfl (bQ eL aA rfl rfl rfl fun cP=>?_));refine fR rfl rfl rfl (Does.toR rfl (o_appendO eL rfl rfl ah (ys:=[.int .i64 ((un:Nat):Int)]) ⟨(rdA rfl),trivial⟩ rfl aA rfl (by rw [a7,List.length_drop];omega) (by rw [a7,List.length_drop];omega) fun v46 ci cf=>?_));refine aQ rfl rfl rfl rfl (bI rfl) ?_;refine dM ?_;refine r_bn ?_;refine d9 (ak _ _ _ ?_);refine cA ?_;refine aQ rfl rfl rfl rfl (a8 rfl rfl) ?_;refine aQ rfl rfl rfl rfl (aU rfl) ?_;refine dM ?_;refine d9 (lM (j+1,(U.1++[((un:Nat):Int)],U.2.set un true),v46,ci) (by first|omega|(dsimp only;omega)|(simp;omega)) rfl ⟨aA,bc,by rw [bc,rA hj,← ad];exact ag.push1 b2,by simp;omega,by rw [List.drop_append_of_le_length aA,eJ];exact cf⟩ ?_ ?_ ?_)
       ·exact aF
       ·exact aF
       ·exact aC
      ·have au:U.2.getD un false=true:=by simpa using ar
       refine iT ?_;refine r_bn ?_;refine d9 (ak _ _ _ ?_);refine cA ?_;refine aQ rfl rfl rfl rfl (a8 rfl rfl) ?_;refine aQ rfl rfl rfl rfl (aU rfl) ?_;refine dM ?_;refine d9 (lM (j+1,U,Y,aa) (by first|omega|(dsimp only;omega)|(simp;omega)) rfl ⟨aA,by rw [rA hj,← ad,jE,if_pos (by rw [ao] at*;simpa using au)],ag,b1,ah⟩ ?_ ?_ ?_)
       ·exact aF
       ·exact aF
       ·exact aC
     ·refine lF ?_;refine r_te ?_;refine r_te ?_;refine r_be ?_;refine r_bn ?_;refine d9 (b6 _ _ _ ?_)
      have bi:U=bgo (fun v:Nat=>dS (v:Int) l) (fM c b0) (k+1):=by
        rw [ad,List.take_of_length_le aA]
        show _=oJ _ k (bgo (fun v:Nat=>dS (v:Int) l) (fM c b0) k)
        rw [← ac,pX Z,← hv,Int.toNat_natCast]
      have bf:=a7 (U.1.drop k)
      rw [List.length_drop] at bf;have aw:=ah
      obtain ⟨aq,be,ax,bh,cn,rfl,rfl,cI,cC,cJ,cD⟩:=aw
      obtain ⟨ab,rfl⟩:∃ ab,ab=U:=⟨_,rfl⟩
      have cj : ab.1[k]'aA = (F : Int) := by
        obtain ⟨r,hr⟩:=bpush_ext ((dS (F:Int) l).take j) X
        rw [← ad] at hr;simp only [hr];rw [List.getElem_append_left Z];exact hv.symm
      refine cA ?_;refine aQ rfl rfl rfl rfl (aU rfl) ?_;refine aQ rfl rfl rfl rfl (f7 bX rfl rfl rfl rfl (fun h=>by cases h) 1 _ _ (.inr ⟨_,_,rfl,aA⟩) (.inl ⟨rfl,rfl⟩) (.inl ⟨rfl,rfl⟩) ⟨aA,aA,aA⟩ _ rfl) ?_;refine aQ rfl rfl rfl rfl (bI rfl) ?_;refine dM ?_;have ap:bgo (fun v:Nat=>dS (v:Int) l) (fM c b0) (k+1)=ab:=bi.symm
      rw [← ap];refine d9 (lM (k+1,.slice (if ax=1 then some ⟨aq,be,none⟩ else (some ⟨aq,be,none⟩:Option Addr).map (·.add (1*1))) ((bF ((bgo (fun v:Nat=>dS (v:Int) l) (fM c b0) (k+1)).1.drop k)).length - 1) (ax - 1),[(aq,blk (bh++(bF ((bgo (fun v:Nat=>dS (v:Int) l) (fM c b0) (k+1)).1.drop k)++cn)) 3)],m2) (by first|omega|(dsimp only;omega)|(simp;omega)) rfl ⟨by rw [ap];omega,by rw [ap];refine OwnQ.tail (x:= .int .i64 (F:Int)) ?_;rw [show Value.int .i64 (F:Int)::bF (ab.1.drop (k+1))=bF (ab.1.drop k) from by rw [drop_cons_of (show k<ab.1.length by omega),cj];rfl];exact ah,by rw [← az];exact ct⟩ ?_ ?_ ?_)
      ·exact aF
      ·exact aF
      ·exact aC
  ·have bB:X.1.length≤k:=aA
   have aj:bfs n (fun v:Nat=>dS (v:Int) l) c b0=X:=by rw [ac];exact bgo_fin aA (by rw [← ac];exact bB)
   have bL:(bfs n (fun v:Nat=>dS (v:Int) l) c b0).1.take k=(bfs n (fun v:Nat=>dS (v:Int) l) c b0).1:=List.take_of_length_le (by rw [aj];exact bB)
   rw [bL] at hJ;refine lF ?_;refine r_te ?_;refine r_te ?_;refine r_be ?_;exact r_fin0n [mJ,[(b5,blk [.slice (some ⟨O,0,none⟩) n n] 37)],[(b4,blk [.int .i64 (c:Int)] 3)],[(b3,blk [.slice (some ⟨bo,0,none⟩) n n] 32)],[(O,blk (gA X.2) 4)],[(bo,blk vs 25)],ms.flatten] Tryz.results188 aC ⟨rfl,mJ,_,rfl,.inl ⟨_,⟨rfl,by rw [aj]⟩,hJ⟩⟩
end Go.Proofs.YthpkelafioikaaaGreat
