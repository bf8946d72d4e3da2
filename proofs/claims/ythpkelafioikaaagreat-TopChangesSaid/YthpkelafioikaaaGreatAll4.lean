import Derived.Test.YthpkelafioikaaaGreatFlyRun
import Derived.Test.YthpkelafioikaaaGreatAll0
import Derived.Test.YthpkelafioikaaaGreatAll3
import Derived.Test.YthpkelafioikaaaGreatAll2
import Derived.Test.YthpkelafioikaaaGreatFlyR
import Derived.Test.YthpkelafioikaaaGreatFlyT
namespace Go.Proofs.YthpkelafioikaaaGreat
open Go Go.RowKit Fly
set_option maxRecDepth 100000
set_option maxHeartbeats 4000000
set_option linter.all false
structure Chg where
 arc:Int
 wt:Int
def mF (x:Chg):List Value:=[.int .i64 x.arc,.int .u32 x.wt]
theorem lK (x:Chg):(mF x).length=2:=rfl
structure ChgOk (x:Chg):Prop where
 arc:I64 x.arc
 wt:0≤x.wt∧x.wt≤4294967295
def chgBad (n:Nat) (x:Chg):Bool:=decide (x.arc<0)||decide ((n:Int)≤x.arc)
def reweigh (x:Arc) (w:Int):Arc:=⟨x.src,x.dst,w⟩
def oU (l:List Arc) (c:Chg):List Arc:=match l[c.arc.toNat]? with
 |some x=>l.set c.arc.toNat (reweigh x c.wt)
 |none=>l
def chg (l:List Arc) (cs:List Chg):List Arc:=cs.foldl oU l
theorem chg1_len (l:List Arc) (c:Chg):(oU l c).length=l.length:=by unfold oU;split<;>simp
theorem lV (cs:List Chg):∀ l:List Arc,(chg l cs).length=l.length:=by
 induction cs with
 |nil=>exact fun l=>rfl
 |cons c cs ih=>intro l;show (chg (oU l c) cs).length=_;rw [ih,chg1_len]
theorem chg_take {l:List Arc} {cs:List Chg} {i:Nat} (h:i<cs.length):chg l (cs.take (i+1))=oU (chg l (cs.take i)) cs[i]:=by
 unfold chg;rw [List.take_succ_eq_append_getElem h,List.foldl_append];rfl
theorem chg1_set {l:List Arc} {c:Chg} {k:Nat} (hk:k<l.length) (e:c.arc.toNat=k):oU l c=l.set k (reweigh l[k] c.wt):=by
 subst e;unfold oU;rw [List.getElem?_eq_getElem hk]
def oI (N:Int) (l:List Arc) (cs:List Chg):Int×List Arc×Int:=
 if (cG N l).2≠0 then (0,[],(cG N l).2) else if 16384<cs.length then (0,[],2) else if cs.any (chgBad l.length)=true then (0,[],5) else (N,chg l cs,0)
def GraphΦ (r:Int×List Arc×Int) (u:Value) (own:List Seg):Prop:=
 ∃ s m,u= .tuple #[.agg #[.int .i64 r.1,s],.int .i64 r.2.2]∧own=[m]∧Own 69 3 s r.2.1.length (r.2.1.flatMap bZ) m
theorem qR {r:Int×List Arc×Int} {n e:Int} {L:List Arc} {s:Value} {m:Seg} {k:Nat} (h:r=(n,L,e)) (hk:k=L.length) (ho:Own 69 3 s k (L.flatMap bZ) m):GraphΦ r (.tuple #[.agg #[.int .i64 n,s],.int .i64 e]) [m]:=by
 subst h;subst hk;exact ⟨s,m,rfl,rfl,ho⟩
theorem chg1_ends (l:List Arc) (c:Chg) (k:Nat) (h:k<l.length) (h' :k<(oU l c).length):(oU l c)[k].src=l[k].src∧(oU l c)[k].dst=l[k].dst:=by
 by_cases hc:c.arc.toNat<l.length
 ·have e:=chg1_set hc rfl
  rw [List.getElem_of_eq e h',List.getElem_set]
  split
  ·rename_i e';subst e';exact ⟨rfl,rfl⟩
  ·exact ⟨rfl,rfl⟩
 ·have e:oU l c=l:=by unfold oU;rw [List.getElem?_eq_none aA]
  rw [List.getElem_of_eq e h'];exact ⟨rfl,rfl⟩
theorem chg_ends (cs:List Chg):∀ (l:List Arc) (k:Nat) (h:k<l.length) (h' :k<(chg l cs).length),(chg l cs)[k].src=l[k].src∧(chg l cs)[k].dst=l[k].dst:=by
 induction cs with
 |nil=>exact fun l k h h' =>⟨rfl,rfl⟩
 |cons c cs ih=>
  intro l k h h';have h1:k<(oU l c).length:=by rw [chg1_len];exact h
  have e:=ih (oU l c) k h1 (by rw [lV];exact h1)
  have e1:=chg1_ends l c k h h1
  exact ⟨e.1.trans e1.1,e.2.trans e1.2⟩
theorem gcheck_same {N:Int} {l r:List Arc} (hl:r.length=l.length) (h:∀ (k:Nat) (h:k<l.length) (h' :k<r.length),r[k].src=l[k].src∧r[k].dst=l[k].dst) (F:(cG N l).2=0):cG N r=(0,0):=by
 obtain ⟨h1,h2,h3,hg⟩:=bS F
 refine gcheck_ok ⟨h1,h2⟩ aA fun j hj=>?_;obtain ⟨a,b,c,d⟩:=hg j aA
 obtain ⟨e1,e2⟩:=h j aA hj
 unfold gB;simp;omega
theorem chg_ok {cs:List Chg} (hc:∀ c∈cs,ChgOk c):∀ {l:List Arc},(∀ x∈l,eK x)→∀ x∈chg l cs,eK x:=by
 induction cs with
 |nil=>exact fun h=>h
 |cons c cs ih=>
  intro l h;refine ih (fun d hd=>hc d (List.mem_cons_of_mem _ hd)) ?_;intro x hx
  unfold oU at hx
  split at hx
  ·rename_i y hy
   rcases List.mem_or_eq_of_mem_set hx with h' |rfl
   ·exact h x h'
   ·have F:=h y (List.mem_of_getElem? hy)
    exact ⟨F.src,F.dst,(hc c (List.mem_cons_self ..)).wt⟩
  ·exact h x hx
theorem arcs_one (l:List Arc):(l.flatMap bZ).all (·.oneCell')=true:=by
 induction l with
 |nil=>rfl
 |cons x l ih=>rw [List.flatMap_cons,List.all_append,ih];rfl
theorem oN (A:Option Addr) (len:Nat) (cs:List Value) (cap:Nat) (w:World) (hs:Ro (Fr w []) w A cs) (hn:A=none→len=0) (hl:cs.length=len*3) (hone:cs.all (·.oneCell')=true) (O:len≤1000000000):
    Meets Tryz.prog 37 [.slice A len cap] w [] (fun u own' =>∃ m,own' =[m]∧Own 69 3 u len cs m):=by
 refine bE Tryz.func37 rfl Tryz.ntmps37 rfl Owns.nil<|aG fun kh1=>aB 1 rfl<|aD kh1<|aS fun kh2=>aG fun kh3=>aB 1 rfl<|f_Q (o_eqlSl Tryz.underlying22 rfl rfl)<|aD kh3<|eO rfl (fun c4=>?_) (fun c4=>?_)
 ·obtain rfl:A=none:=by cases A<;>first|rfl|simp at c4
  obtain rfl:len=0:=hn rfl
  obtain rfl:cs=[]:=List.eq_nil_of_length_eq_zero (by simpa using hl)
  refine aG fun F=>aB 1 rfl<|aD F<|aY<|cV ?_
  exact bJ [[]] Tryz.results37 rfl Sub.empty ⟨[],rfl,Own.nil _ _⟩
 ·refine bV kh2<|aG fun kh5=>f_S (o_slice0 el22 fun X=>?_)
  refine aB 1 rfl<|f_S (pF el22 rfl rfl (Own.mk (b:=X) (cs:=[]) (len:=0) rfl aA) (ys:=cs) (fun hne=>by obtain ⟨b,off,e,Y,hc⟩:=hs hne;exact ⟨b,off,e,Seen.rds fun _=>⟨Y,hc⟩⟩) hl hone aA aA fun Z J U=>?_)
  refine aB 1 rfl<|aD kh5<|aY ?_
  exact bJ [J] Tryz.results37 rfl (by repeat (first|exact aP|refine aM ?_)) ⟨J,rfl,by simpa using U⟩
theorem IdxChg_spec (A:Option Addr) (l:List Chg) (cap:Nat) (O:FuncId) (J:List Value) (p:Chg→Bool) (w:World) (hr:Ro (Fr w []) w A (l.flatMap mF)) (hl:l.length≤1000000000)
    (Y:∀ args w,(callFunc O args).run Tryz.prog w= .ok (.enter O args) w)
    (U:∀ w',(∀ k,Fr w [] k→w'.heap[k]? =w.heap[k]?)→∀ x∈l,Meets Tryz.prog O ([.agg (mF x).toArray]++J) w' [] (fun u m=>u= .bool (p x)∧m=[])):
    Meets Tryz.prog 68 [.slice A l.length cap,.func (.func O) #[] J.toArray] w [] (fun u own' =>u= .int .i64 (fidx p l)∧own' =[]):=by
 refine bE Tryz.func68 rfl Tryz.ntmps68 rfl Owns.nil<|aG fun kh1=>aB 1 rfl<|aD kh1<|aS fun kh2=>aG fun aa=>aB 1 rfl<|dU sl50 rfl<|aB 1 rfl<|aD aa ?_
 refine aR ?_;refine lU (α:=Nat) [0,1,7] (fun k=>[(8,.int .i64 (k:Int))]) (fun k=>k≤l.length∧∀ j (h:j<l.length),j<k→p l[j]=false) (fun k=>l.length - k) (0) ?_ ?_ ?_
 ·exact aF
 ·exact ⟨aA,fun j _ h=>aA⟩
 ·rintro k ⟨ab,F⟩;refine aG fun kh4=>aB 1 rfl<|aD kh4<|aS fun kh5=>aX rfl (fun c9=>?_) (fun c9=>?_)
  ·refine bV kh5<|aS fun kh6=>aR<|aG fun kh7=>aB 2 rfl<|aD kh7<|aG fun kh8=>aB 3 rfl ?_
   have hk:k<l.length:=aA
   obtain ⟨bl,off,rfl,hS,hc⟩:=hr (eX mF lK aA hk)
   refine f_Q (aL sl50 rfl rfl (off+k*2))<|f_Q (aO (vs:=mF l[k]) Tryz.isAgg58 Tryz.sizeOf58 rfl rfl (f8 lK hS hc hk)) ?_;refine f_S (jG [] _ Y rfl rfl Sub.refl (fun w_ Z=>(by have h:=U w_ (fun j hj=>Z.same j hj) l[k] (List.getElem_mem hk);exact h)) ?_);rintro _ _ ⟨rfl,rfl⟩;dsimp only [aK,aJ];refine aD kh8<|eO rfl (fun c16=>?_) (fun c16=>?_)
   ·refine aG fun X=>aB 2 rfl<|aD X<|aY<|fA<|cV<|cV<|fA<|cV ?_
    exact bJ [] Tryz.results68 rfl aP ⟨by rw [fidx_at hk (by simpa using c16) F],rfl⟩
   ·refine dY<|dF<|bO kh6<|aI<|f_Q (a8 rfl rfl)<|aB 1 rfl<|aZ ?_
    refine cS (a6 (k+1) (by first|omega|(dsimp only;omega)|(simp;omega)) ⟨aA,qU F (by simpa using c16)⟩ ?_ ?_ ?_)
    ·exact aF
    ·exact aF
    ·exact aC
  ·refine cN<|cO<|cO<|eC<|bO kh2<|aG fun kh10=>aB 1 rfl<|aD kh10<|aY ?_
   exact bJ [] Tryz.results68 rfl aP ⟨by rw [fidx_none (fun j h=>F j h aA)],rfl⟩
theorem IdxChg_spec_has (A:Option Addr) (l:List Chg) (cap:Nat) (O:FuncId) (F:List Value) (p:Chg→Bool) (w:World) (hr:Ro (Fr w []) w A (l.flatMap mF)) (hl:l.length≤1000000000)
    (X:∀ args w,(callFunc O args).run Tryz.prog w= .ok (.enter O args) w)
    (U:∀ w',(∀ k,Fr w [] k→w'.heap[k]? =w.heap[k]?)→∀ x∈l,Meets Tryz.prog O ([.agg (mF x).toArray]++F) w' [] (fun u m=>u= .bool (p x)∧m=[])):
    Meets Tryz.prog 35 [.slice A l.length cap,.func (.func O) #[] F.toArray] w [] (fun u own' =>u= .bool (l.any p)∧own' =[]):=by
 refine bE Tryz.func35 rfl Tryz.ntmps35 rfl Owns.nil<|aG fun kh1=>aB 1 rfl<|aD kh1<|aG fun kh2=>aB 2 rfl ?_
 refine f_S (aV Tryz.call68 rfl (fun Y J=>IdxChg_spec A l cap O F p Y (hr.up0 J) hl X (fun w' hs x hx=>U w' (J.chain hs) x hx)) ?_);rintro _ _ ⟨rfl,rfl⟩;dsimp only [aK,aJ];refine aB 2 rfl<|aD kh2<|aY ?_
 exact bJ [] Tryz.results35 rfl aP ⟨by rw [fidx_has],rfl⟩
theorem Change1_spec (x:Chg) (N:Int) (A:Option Addr) (len cap b:Nat) (w:World) (hb:Ro (Fr w []) w (some ⟨b,0,none⟩) [.int .i64 N,.slice A len cap]):
    Meets Tryz.prog 36 [.agg (mF x).toArray,.pointer (some ⟨b,0,none⟩)] w [] (fun u m=>u= .bool (chgBad len x)∧m=[]):=by
 obtain ⟨b',o',e',J,F⟩:=hb aN
 obtain ⟨rfl,rfl⟩:b=b'∧0=o' :=by cases e';exact ⟨rfl,rfl⟩
 refine bE Tryz.func36 rfl Tryz.ntmps36 rfl Owns.nil<|aG fun kh1=>f_S (cT rfl rfl fun O=>?_)
 refine aB 1 rfl<|aD kh1<|aG fun kh2=>cL fa58_0 rfl<|cX Tryz.isAgg3 rfl (rdA rfl)<|aB 2 rfl<|d8 7 rfl (fun g7=>?_) (fun g7=>?_)
 ·refine aB 8 rfl<|aD kh2<|aY ?_
  exact bJ [] Tryz.results36 rfl aP ⟨by unfold chgBad;rw [decide_eq_true g7];rfl,rfl⟩
 ·refine eA rfl rfl (aT fa58_0 rfl)<|eA rfl rfl (aH Tryz.isAgg3 rfl (rdA rfl))<|eA rfl rfl (aT fT rfl)<|eA rfl rfl (aH Tryz.isAgg22 rfl (rdS J (F 1 _ rfl)))<|eA rfl rfl (iH jB rfl)<|aB 3 rfl<|aD kh2<|aY ?_
  exact bJ [] Tryz.results36 rfl aP ⟨by unfold chgBad;rw [decide_eq_false g7];rfl,rfl⟩
theorem Change_spec (N:Int) (A:Option Addr) (l:List Arc) (cap:Nat) (B:Option Addr) (cs:List Chg) (cb:Nat) (w:World) (hr:Ro (Fr w []) w A (l.flatMap bZ)) (hA:A=none→l.length=0) (hk:Ro (Fr w []) w B (cs.flatMap mF)) (hl:l.length≤9223372036854775807) (hN:I64 N) (hok:∀ x∈l,eK x):
    Meets Tryz.prog 13 [.agg #[.int .i64 N,.slice A l.length cap],.slice B cs.length cb] w [] (GraphΦ (oI N l cs)):=by
 refine bE Tryz.func13 rfl Tryz.ntmps13 rfl Owns.nil<|aG fun kh1=>f_S (cT rfl rfl fun b2=>?_)
 refine f_S (cQ Tryz.zeroValue24 rfl fun b4=>?_);refine aB 1 rfl<|aD kh1<|aS fun kh2=>aG fun kh3=>f_Q (aO (vs:=[_,_]) Tryz.isAgg24 Tryz.sizeOf24 rfl rfl ⟨(rdA rfl),(rdA rfl),trivial⟩) ?_
 refine f_S (aV Tryz.call20 rfl (fun w_ O=>f3 N A l cap w_ (hr.up0 O) hl hN hok) ?_);rintro _ _ ⟨rfl,rfl⟩;dsimp only [aK,aJ];refine aB 5 rfl<|aD kh3<|aG fun kh4=>aB 2 rfl<|aD kh4<|aX rfl (fun c17=>?_) (fun c17=>?_)
 ·refine aG fun ak=>f_Q (dL st24 rfl rfl)<|aB 1 rfl<|f_Z (bP Tryz.sizeOf24 rfl rfl rfl rfl cF _ rfl ?_)
  refine aB 1 rfl<|aD ak<|aY<|cV ?_
  exact f_finR2 [[]] Tryz.results13 (rvA (vs:=[.int .i64 0,.slice none 0 0]) Tryz.isAgg24 Tryz.sizeOf24 rfl rfl ⟨(rdA rfl),(rdA rfl),trivial⟩) (rv rfl) Sub.empty (qR (L:=[]) (by unfold oI;rw [if_pos (by simpa using c17)]) rfl (Own.nil _ _))
 ·have al:(cG N l).2=0:=by simpa using c17
  obtain ⟨aw,ar,hlen,aj⟩:=bS al
  refine bV kh2<|aS fun kh6=>aG fun kh7=>aB 1 rfl<|dU sl50 rfl<|aB 1 rfl<|aD kh7<|aX rfl (fun c22=>?_) (fun c22=>?_)
  ·refine aG fun aq=>f_Q (dL st24 rfl rfl)<|f_Z (bP Tryz.sizeOf24 rfl rfl rfl rfl cF _ rfl ?_)
   refine aB 1 rfl<|aD aq<|aY<|cV ?_
   exact f_finR2 [[]] Tryz.results13 (rvA (vs:=[.int .i64 0,.slice none 0 0]) Tryz.isAgg24 Tryz.sizeOf24 rfl rfl ⟨(rdA rfl),(rdA rfl),trivial⟩) (rv rfl) Sub.empty (qR (L:=[]) (by unfold oI;rw [if_neg aA,if_pos aA]) rfl (Own.nil _ _))
  ·refine bV kh6<|aS fun kh9=>aG fun ae=>aB 1 rfl<|f_Q (kT rfl rfl) ?_
   refine f_S (aV Tryz.call35 rfl (fun w_ O=>IdxChg_spec_has B cs cb 36 [.pointer (some ⟨b2,0,none⟩)] (chgBad l.length) w_ (hk.up0 O) aA Tryz.call36 (fun w' hs x _=>Change1_spec x N A l.length cap b2 w' (oQ (b:=b2) O hs))) ?_);rintro _ _ ⟨rfl,rfl⟩;dsimp only [aK,aJ];refine aD ae<|eO rfl (fun c26=>?_) (fun c26=>?_)
   ·refine aG fun ac=>f_Q (dL st24 rfl rfl)<|f_Z (bP Tryz.sizeOf24 rfl rfl rfl rfl cF _ rfl ?_)
    refine aB 1 rfl<|aD ac<|aY<|cV ?_
    exact f_finR2 [[]] Tryz.results13 (rvA (vs:=[.int .i64 0,.slice none 0 0]) Tryz.isAgg24 Tryz.sizeOf24 rfl rfl ⟨(rdA rfl),(rdA rfl),trivial⟩) (rv rfl) Sub.empty (qR (L:=[]) (by unfold oI;rw [if_neg aA,if_neg aA,if_pos (by simpa using c26)]) rfl (Own.nil _ _))
   ·have ad:∀ i (h:i<cs.length),0≤cs[i].arc∧cs[i].arc<l.length:=fun i h=>by
      have:=List.any_eq_false.1 (by simpa using c26) _ (List.getElem_mem h)
      unfold chgBad at this;simp at this;omega
    refine bV kh9 ?_;refine qZ (α:=Nat×Value×Seg) [1,4] (fun ⟨b8,s8,U⟩=>[(8,.pointer (some ⟨b8,0,none⟩))]) (fun ⟨b8,s8,U⟩=>[[(b8,blk [.int .i64 N,s8] 24)],U,[(b4,blk [.int .i64 0,.slice none 0 0] 24)]]) (fun ⟨b8,s8,U⟩=>Own 69 3 s8 l.length (l.flatMap bZ) U) ?_ ?_
    ·intro au Y;refine c7 [[(b2,blk [.int .i64 N,.slice A l.length cap] 24)]] rfl<|f_T 0 rfl (aT eT rfl)<|f_T 1 rfl (aH Tryz.isAgg3 rfl (rdA rfl))<|f_T 2 rfl (aT fT rfl)<|f_T 3 rfl (aH Tryz.isAgg22 rfl (rdA rfl))<|gH 4 6 rfl rfl aW rfl rfl rfl rfl rfl rfl ?_ ?_
     ·refine (aV Tryz.call37 rfl (fun w_ O=>oN A l.length (l.flatMap bZ) cap w_ (hr.up0 O) hA (dO bZ dD l) (arcs_one l) aA) ?_);rintro am _ ⟨aa,rfl,J⟩;obtain ⟨Z,F,rfl,ag⟩:=J.val
      dsimp only [aK,aJ];refine ⟨aC,?_⟩;refine f_T 5 rfl (dL st24 rfl rfl)<|f_O 6 rfl (cQ Tryz.zeroValue24 rfl fun b8=>⟨aC,?_⟩)
      refine fZ 7 rfl (bP Tryz.sizeOf24 rfl rfl rfl rfl cF _ rfl ⟨aC,?_⟩);refine cU aW<|cS (Y _ _ (b8,.slice Z l.length F,aa) J ?_ ?_ ?_)
      ·exact aF
      ·exact aF
      ·exact aC
     ·refine (cQ Tryz.zeroValue24 rfl fun b8=>⟨aC,?_⟩);refine f_O 4 rfl (aV Tryz.call37 rfl (fun w_ O=>oN A l.length (l.flatMap bZ) cap w_ (hr.up0 O) hA (dO bZ dD l) (arcs_one l) aA) ?_);rintro am _ ⟨aa,rfl,J⟩;obtain ⟨Z,F,rfl,ag⟩:=J.val
      dsimp only [aK,aJ];refine ⟨aC,?_⟩;refine f_T 5 rfl (dL st24 rfl rfl)<|fZ 7 rfl (bP Tryz.sizeOf24 rfl rfl rfl rfl cF _ rfl ⟨aC,?_⟩)
      refine cU aW<|cS (Y _ _ (b8,.slice Z l.length F,aa) J ?_ ?_ ?_)
      ·exact aF
      ·exact aF
      ·exact aC
    ·rintro ⟨b8,s8,U⟩ J;obtain ⟨Z,F,rfl,ag⟩:=J.val
     refine aS fun kh13=>aG fun ah=>aB 1 rfl<|dU sl50 rfl<|aB 1 rfl<|aD ah<|aR ?_
     refine dA (α:=Nat×Seg) [4,8,34,35] (fun ⟨i,U⟩=>[(36,.int .i64 (i:Int))]) (fun ⟨i,U⟩=>[[(b8,blk [.int .i64 N,.slice Z l.length F] 24)],U,[(b4,blk [.int .i64 0,.slice none 0 0] 24)]]) (fun ⟨i,U⟩=>i≤cs.length∧Own 69 3 (.slice Z l.length F) l.length ((chg l (cs.take i)).flatMap bZ) U) (fun ⟨i,U⟩=>cs.length - i) (0,U) ?_ ?_ ?_ ?_
     ·exact aF
     ·exact aC
     ·exact ⟨aA,J⟩
     ·rintro ⟨i,U⟩ ⟨av,X⟩;refine fF (e:=[(36,_),(4,_),(8,_),(34,_),(35,_)]) aF ?_;refine aG fun kh15=>aB 1 rfl<|aD kh15<|aS fun kh16=>aX rfl (fun ai=>?_) (fun ai=>?_)
      ·refine bV kh16<|aS fun kh17=>aR<|aG fun kh18=>?_
       have hi:i<cs.length:=aA
       obtain ⟨bk,ok,rfl,ap,ao⟩:=hk (eX mF lK aA hi)
       have hai:=ad i hi
       obtain ⟨b5,ab,rfl,rfl,an⟩:=X.upd aA
       refine f_Q (aL sl50 rfl rfl (ok+i*2))<|f_Q (aO (vs:=mF cs[i]) Tryz.isAgg58 Tryz.sizeOf58 rfl rfl (f8 lK ap ao hi))<|f_S (cQ Tryz.zeroValue58 rfl fun b10=>?_)
       refine f_Z (bP Tryz.sizeOf58 rfl rfl rfl rfl cF _ rfl ?_);refine aD kh18<|aI<|cL fT rfl<|cX Tryz.isAgg22 rfl (rdA rfl)<|cL fa58_0 rfl<|cX Tryz.isAgg3 rfl (rdA rfl)<|cL fa58_1 rfl<|cX Tryz.isAgg56 rfl (rdA rfl)<|f_Q (aL jB rfl rfl (cs[i].arc.toNat*3))<|cL fa69_2 rfl<|f_Z (bU Tryz.sizeOf56 rfl rfl rfl rfl (by rw [List.length_append,dO bZ dD,lV];omega) ((chg l (cs.take (i+1))).flatMap bZ++ab) (by rw [chg_take hi,chg1_set (k:=cs[i].arc.toNat) (by rw [lV];omega) rfl];exact lX dD ab aA _ _ _ (by rw [lV];omega) rfl) ?_)
       refine aZ<|dF<|bO kh17<|aI<|f_Q (a8 rfl rfl)<|aB 1 rfl<|aZ ?_
       refine cS (a6 (i+1,[(b5,blk ((chg l (cs.take (i+1))).flatMap bZ++ab) 69)]) (by first|omega|(dsimp only;omega)|(simp;omega)) ⟨aA,an _ (by rw [dO bZ dD,dO bZ dD,lV,lV])⟩ ?_ ?_ ?_)
       ·exact aF
       ·exact aF
       ·exact aC
      ·refine cN<|cO<|cO<|eC<|bO kh13<|aG fun kh19=>f_Q (aO (vs:=[_,_]) Tryz.isAgg24 Tryz.sizeOf24 rfl rfl ⟨(rdA rfl),(rdA rfl),trivial⟩)<|f_Z (bP Tryz.sizeOf24 rfl rfl rfl rfl cF _ rfl ?_)
       refine aB 1 rfl<|aD kh19<|aY ?_
       have et:cs.take i=cs:=List.take_of_length_le aA
       rw [et] at X;exact f_finR2 [U] Tryz.results13 (rvA (vs:=[.int .i64 N,.slice Z l.length F]) Tryz.isAgg24 Tryz.sizeOf24 rfl rfl ⟨(rdA rfl),(rdA rfl),trivial⟩) (rv rfl) (by repeat (first|exact aP|refine aM ?_)) (qR (by unfold oI;rw [if_neg aA,if_neg aA,if_neg (by simpa using c26)]) (lV cs l).symm X)
theorem RowsI.snoc {E:TypeId} {F:List (List Int)} {vs:List Value} {ms:List Seg} (h:RowsI E F vs ms) {l:List Int} {v:Value} {m:Seg} (ho:Own E 1 v l.length (bF l) m):RowsI E (F++[l]) (vs++[v]) (ms++[m]):=
 ⟨by simp [h.lv],by simp [h.lm],fun i hi=>by
  rw [List.length_append,List.length_singleton] at hi;have X:=h.lv
  have U:=h.lm
  by_cases e:i<F.length
  ·have e1 : (F ++ [l])[i]'(by simp; omega) = F[i] := List.getElem_append_left e
   have e2 : (vs ++ [v])[i]'(by simp; omega) = vs[i]'aA := List.getElem_append_left aA
   have J : (ms ++ [m])[i]'(by simp; omega) = ms[i]'aA := List.getElem_append_left aA
   rw [e1,e2,J];exact h.own i e
  ·have O:i=F.length:=aA
   have e1 : (F ++ [l])[i]'(by simp; omega) = l := by subst O; simp
   have e2 : (vs ++ [v])[i]'(by simp; omega) = v := by
    rw [List.getElem_append_right aA];simp
   have J : (ms ++ [m])[i]'(by simp; omega) = m := by
    rw [List.getElem_append_right aA];simp
   rw [e1,e2,J];exact ho⟩
theorem RowsI.one {E:TypeId} {l:List Int} {v:Value} {m:Seg} (ho:Own E 1 v l.length (bF l) m):RowsI E [l] [v] [m]:=
 ⟨rfl,rfl,fun i hi=>by
  have:i=0:=by simpa using hi
  subst this;exact ho⟩
theorem RowsI.rows {E:TypeId} {F:List (List Int)} {vs:List Value} {ms:List Seg} (h:RowsI E F vs ms):∃ R:List Row,vs=R.map fG∧bG R=F:=by
 have U:=h.lv
 have key:∀ i,i<F.length→∃ r:Row,(∀ hv:i<vs.length,vs[i]=fG r)∧∀ hi:i<F.length,F[i]=r.2.1:=fun i hi=>by
  obtain ⟨A,c,e,_⟩:=(h.own i hi).val
  exact ⟨(A,F[i],c),fun _=>e,fun _=>rfl⟩
 obtain ⟨R,O,J⟩:=list_of (R:=fun i r=>(∀ hv:i<vs.length,vs[i]=fG r)∧∀ hi:i<F.length,F[i]=r.2.1) key
 refine ⟨R,List.ext_getElem (by simp;omega) fun i h1 h2=>?_,List.ext_getElem (by simp [bG];omega) fun i h1 h2=>?_⟩
 ·rw [List.getElem_map];exact (J i (by simpa using h2)).1 h1
 ·simp only [bG,List.getElem_map]
  exact ((J i aA).2 h2).symm
structure RowsCt (E:TypeId) (R:List Row) (ms:List Seg):Prop where
 lm:ms.length=R.length
 own : ∀ (i : Nat) (h : i < R.length), ∃ c, Own E 1 (.slice R[i].1 R[i].2.1.length c) R[i].2.1.length (bF R[i].2.1) (ms[i]'(lm ▸ h))
def cutVR:Value→Value
 | .slice A n _=> .slice A n n
 |v=>v
def nS (vs:List Value) (k:Nat):List Value:=vs.mapIdx fun i v=>if i<k then cutVR v else v
theorem ctoR_len (vs:List Value) (k:Nat):(nS vs k).length=vs.length:=by simp [nS]
theorem ctoR_zero (vs:List Value):nS vs 0=vs:=by
 refine List.ext_getElem (by simp [nS]) fun i h1 h2=>?_;simp [nS]
theorem ctoR_get {vs:List Value} {k i:Nat} (h:k≤i):(nS vs k)[i]? =vs[i]? :=by
 unfold nS
 rw [List.getElem?_mapIdx]
 cases vs[i]? with
 |none=>rfl
 |some v=>simp [show ¬ i<k by omega]
theorem ctoR_set {vs:List Value} {k i:Nat} (h:k≤i) (v:Value):(nS vs k).set i v=nS (vs.set i v) k:=by
 refine List.ext_getElem (by simp [nS]) fun j h1 h2=>?_;simp only [nS,List.getElem_mapIdx,List.getElem_set]
 by_cases e:i=j
 ·subst e;simp [show ¬ i<k by omega]
 ·simp [e]
theorem ctoR_next {vs:List Value} {k:Nat} (v:Value):(nS vs k).set k (cutVR v)=nS (vs.set k v) (k+1):=by
 refine List.ext_getElem (by simp [nS]) fun j h1 h2=>?_;simp only [nS,List.getElem_mapIdx,List.getElem_set]
 by_cases e:k=j
 ·subst e;simp
 ·by_cases e2:j<k
  ·simp [e,e2,show j<k+1 by omega]
  ·simp [e,e2,show ¬ j<k+1 by omega]
theorem ctoR_all {vs:List Value} {k:Nat} (h:vs.length≤k):nS vs k=vs.map cutVR:=by
 refine List.ext_getElem (by simp [nS]) fun j h1 h2=>?_;simp only [nS,List.getElem_mapIdx,List.getElem_map];rw [if_pos (by have:=h2;simp at this;omega)]
theorem RowsI.cut {E:TypeId} {F:List (List Int)} {vs:List Value} {ms:List Seg} (h:RowsI E F vs ms):∃ R:List Row,vs.map cutVR=R.map fG∧bG R=F∧RowsCt E R ms:=by
 have U:=h.lv
 have O:=h.lm
 have key:∀ i,i<F.length→∃ r:Row,(∀ hv:i<vs.length,cutVR vs[i]=fG r)∧(∀ hi:i<F.length,F[i]=r.2.1)∧∀ hm:i<ms.length,∃ c,Own E 1 (.slice r.1 r.2.1.length c) r.2.1.length (bF r.2.1) ms[i]:=fun i hi=>by
  have ho:=h.own i hi
  obtain ⟨A,c,e,_⟩:=ho.val
  refine ⟨(A,F[i],F[i].length),fun _=>by rw [e];rfl,fun _=>rfl,fun _=>⟨c,?_⟩⟩;rw [e] at ho;exact ho
 obtain ⟨R,X,J⟩:=list_of (R:=fun i r=>(∀ hv:i<vs.length,cutVR vs[i]=fG r)∧(∀ hi:i<F.length,F[i]=r.2.1)∧∀ hm:i<ms.length,∃ c,Own E 1 (.slice r.1 r.2.1.length c) r.2.1.length (bF r.2.1) ms[i]) key
 refine ⟨R,List.ext_getElem (by simp;omega) fun i h1 h2=>?_,List.ext_getElem (by simp [bG];omega) fun i h1 h2=>?_,aA,fun i hi=>(J i aA).2.2 aA⟩
 ·rw [List.getElem_map,List.getElem_map];exact (J i (by simpa using h2)).1 (by simpa using h1)
 ·simp only [bG,List.getElem_map]
  exact ((J i aA).2.1 h2).symm
theorem RowsCt.nil (E:TypeId):RowsCt E [] []:=⟨rfl,fun i h=>by simp at h⟩
theorem RowsCt.ro {S:Nat→Prop} {w0 w:World} {segs O:List Seg} {E:TypeId} {R:List Row} {ms:List Seg} (X:RowsCt E R ms) (hp:Hp S w0 segs.flatten w) [p3:Pick segs ms.flatten O]:∀ r∈R,Ro (Fr w []) w r.1 (bF r.2.1)∧r.2.1.length≤9223372036854775807:=fun r hr=>by
 obtain ⟨i,hi,rfl⟩:=List.mem_iff_getElem.1 hr
 obtain ⟨c,ho⟩:=X.own i hi
 refine ⟨?_,by have:=ho.val;obtain ⟨_,_,e,h⟩:=this;cases e;omega⟩;have U:i<ms.length:=by rw [X.lm];exact hi
 have F:Fly.Sub segs (ms[i]::[(ms.eraseIdx i).flatten]):=⟨O.flatten,by
  have:=p3.perm.trans ((gN ms i U).append_right O.flatten)
  simpa using this⟩
 have J:=hp.sub F
 exact eS (ho.seen (segs:=ms[i]::[(ms.eraseIdx i).flatten]) J)
theorem nest_ro {S:Nat→Prop} {w0 w:World} {segs o1 o2 X:List Seg} {Ab Ac:Option Addr} {bs:List Int} {cb cc lc:Nat} {mb mc:Seg} {R:List Row} {ls:List (List Int)} {ms:List Seg} {E E2:TypeId} (hp:Hp S w0 segs.flatten w) (hb:Own E 1 (.slice Ab bs.length cb) bs.length (bF bs) mb)
  (hc:Own E2 1 (.slice Ac lc cc) lc (R.map fG) mc) (hR:RowsI E ls (R.map fG) ms) (U:bG R=ls) [p1:Pick segs mb o1] [p2:Pick segs mc o2] [p3:Pick segs ms.flatten X] (Y:R.length≤9223372036854775807):NestRo (Fr w []) w Ab bs Ac R where
 b:=eS (hb.seen hp)
 bl:=by have:=hb.val;obtain ⟨_,_,e,h⟩:=this;cases e;omega
 c:=eS (hc.seen hp)
 cl:=Y
 rows:=fun r hr=>by
  obtain ⟨i,hi,rfl⟩:=List.mem_iff_getElem.1 hr
  subst U;have F:i<(bG R).length:=by rw [d5];exact hi
  have ho:=hR.own i F
  have e1 : (R.map fG)[i]'(by simpa using hi) = fG R[i] := aN
  have e2:(bG R)[i]=R[i].2.1:=by simp [bG]
  rw [e1,e2] at ho;refine ⟨?_,by have:=ho.val;obtain ⟨_,_,e,h⟩:=this;cases e;omega⟩;have Z:i<ms.length:=by rw [hR.lm];exact F
  have J:Fly.Sub segs (ms[i]::[(ms.eraseIdx i).flatten]):=⟨X.flatten,by
   have:=p3.perm.trans ((gN ms i Z).append_right X.flatten)
   simpa using this⟩
  have O:=hp.sub J
  exact eS (ho.seen (segs:=ms[i]::[(ms.eraseIdx i).flatten]) O)
theorem RowsI.ro {S:Nat→Prop} {w0 w:World} {segs U:List Seg} {E:TypeId} {R:List Row} {ms:List Seg} (Y:RowsI E (bG R) (R.map fG) ms) (hp:Hp S w0 segs.flatten w) [p3:Pick segs ms.flatten U]:∀ r∈R,Ro (Fr w []) w r.1 (bF r.2.1)∧r.2.1.length≤9223372036854775807:=fun r hr=>by
 obtain ⟨i,hi,rfl⟩:=List.mem_iff_getElem.1 hr
 have F:i<(bG R).length:=by rw [d5];exact hi
 have ho:=Y.own i F
 have e1 : (R.map fG)[i]'(by simpa using hi) = fG R[i] := aN
 have e2:(bG R)[i]=R[i].2.1:=by simp [bG]
 rw [e1,e2] at ho;refine ⟨?_,by have:=ho.val;obtain ⟨_,_,e,h⟩:=this;cases e;omega⟩;have X:i<ms.length:=by rw [Y.lm];exact F
 have J:Fly.Sub segs (ms[i]::[(ms.eraseIdx i).flatten]):=⟨U.flatten,by
  have:=p3.perm.trans ((gN ms i X).append_right U.flatten)
  simpa using this⟩
 have O:=hp.sub J
 exact eS (ho.seen (segs:=ms[i]::[(ms.eraseIdx i).flatten]) O)
theorem add64_run (a b:Int) (ha:0≤a) (hb:0≤b) (w:World):(callFunc 66 [Value.int .u64 a,.int .u64 b,.int .u64 0].toArray).run Tryz.prog w= .ok (.value (.tuple #[.int .u64 ((a+b+0) % 18446744073709551616),.int .u64 ((a+b+0) / 18446744073709551616)])) w:=by
 show (callFunc 66 #[Value.int .u64 a,.int .u64 b,.int .u64 0]).run Tryz.prog w=_
 rw [run_callFunc_extern (fn:=Tryz.f66) (e:=add64Entry) Tryz.func66 (by kernel_rfl) (by kernel_rfl) (by kernel_rfl) (by kernel_rfl),run_add64 a b 0 ha hb (by decide) (by decide)]
 rfl
theorem and32 {y:Nat} (h:y<4294967296):IntKind.u64.wrap ((BitVec.ofInt IntKind.u64.bits (y:Int)&&& BitVec.ofInt IntKind.u64.bits 4294967295).toNat)=(y:Int):=by
 have:=and_mask (k:=32) (y:=y) aA aA
 rw [Nat.mod_eq_of_lt aA] at this;exact this
theorem shr32 {y:Nat} (h:y<4294967296):(y:Int).fdiv (2 ^ (min ((32:Int).toNat) IntKind.u64.bits))=0:=by
 show (y:Int).fdiv 4294967296=0
 rw [Int.fdiv_eq_ediv_of_nonneg _ (by decide)];exact Int.ediv_eq_zero_of_lt aA aA
def iW (N n:Nat) (z x:Value):List Value:=List.replicate n x++List.replicate (N - n) z
theorem qT {N n:Nat} (h:n≤N) (z x:Value):(iW N n z x).length=N:=by simp [iW];omega
theorem oE {N n m:Nat} (h:n+m≤N) (z x:Value):(iW N n z x).take n++List.replicate m x++(iW N n z x).drop (n+m)=iW N (n+m) z x:=by
 unfold iW
 rw [List.take_left' aN,List.drop_append,List.drop_of_length_le aN,List.nil_append,List.length_replicate,List.drop_replicate,List.append_assoc,← List.append_assoc,List.replicate_append_replicate]
 congr 2;omega
theorem fillTo_all {N n:Nat} (h:n=N) (z x:Value):iW N n z x=List.replicate N x:=by subst h;simp [iW]
theorem fillTo_get {N n j:Nat} {v z x:Value} (h:(List.replicate n x)[j]? =some v):(iW N n z x)[j]? =some v:=by
 unfold iW;exact eF h
theorem rep_one {m:Nat} {x:Value} (h:x.oneCell' =true):(List.replicate m x).all (·.oneCell')=true:=by
 rw [List.all_eq_true];intro y hy;rw [(List.mem_replicate.1 hy).2];exact h
theorem rep_take {n m j:Nat} {x v:Value} (h:(List.replicate (min n m) x)[j]? =some v):(List.replicate n x)[j]? =some v:=by
 rw [List.getElem?_replicate] at h ⊢
 split at h
 ·rw [if_pos aA];exact h
 ·cases h
theorem rep_flat (n:Nat) (z:Value):(List.replicate n [z]).flatten=List.replicate n z:=by
 induction n with
 |zero=>rfl
 |succ n ih=>simp only [List.replicate_succ,List.flatten_cons,ih];rfl
theorem p4 (a b:Int) (w:World) (ha:0≤a∧a≤INF) (hb:0≤b∧b≤INF):Meets Tryz.prog 31 [.int .u64 a,.int .u64 b] w [] (fun u m=>u= .int .u64 (gS a b)∧m=[]):=by
 unfold INF at ha hb
 refine bE Tryz.func31 rfl Tryz.ntmps31 rfl Owns.nil<|aG fun kh1=>aB 1 rfl<|aD kh1<|aG fun kh2=>aB 2 rfl<|f_Q (o_ext rfl (fun w=>add64_run a b ha.1 hb.1 w))<|aB 5 rfl<|aD kh2<|aS fun kh3=>?_
 refine aG fun kh4=>aB 2 rfl<|aD kh4<|aX rfl (fun c14=>?_) (fun c14=>?_)
 ·refine aG fun F=>aB 1 rfl<|aD F<|aY<|cV ?_
  exact bJ [] Tryz.results31 rfl aP ⟨by unfold gS INF;rw [if_pos aA],rfl⟩
 ·refine bV kh3<|aG fun kh6=>aB 2 rfl<|aD kh6<|aY ?_
  exact bJ [] Tryz.results31 rfl aP ⟨by unfold gS INF;rw [if_neg aA];congr 1;omega,rfl⟩
theorem Mul64_spec (y:Nat) (w:World) (hy:y<4294967296):Meets Tryz.prog 108 [.int .u64 1,.int .u64 (y:Int)] w [] (fun u m=>u= .tuple #[.int .u64 0,.int .u64 (y:Int)]∧m=[]):=by
 refine bE Tryz.func108 rfl Tryz.ntmps108 rfl Owns.nil<|aG fun kh1=>aB 2 rfl<|aD kh1<|aG fun kh2=>aB 1 rfl<|f_Q (o_and rfl rfl 1 (by decide)) ?_
 refine aB 1 rfl<|aD kh2<|aG fun kh3=>aB 1 rfl<|f_Q (o_shr rfl rfl (by decide) 0 (by decide)) ?_
 refine aB 1 rfl<|aD kh3<|aG fun kh4=>aB 1 rfl<|f_Q (o_and rfl rfl (y:Int) (and32 hy))<|aB 1 rfl<|aD kh4<|aG fun kh5=>aB 1 rfl<|f_Q (o_shr rfl rfl (by decide) 0 (shr32 hy)) ?_
 refine aB 1 rfl<|aD kh5<|aG fun kh6=>aB 2 rfl<|f_Q (o_mul rfl rfl _ (show IntKind.u64.wrap (1*(y:Int))=(y:Int) from by rw [Int.one_mul];exact iQ aA)) ?_
 refine aB 1 rfl<|aD kh6<|aG fun kh7=>aB 2 rfl<|f_Q (o_mul rfl rfl _ (show IntKind.u64.wrap (0*(y:Int))=0 from by rw [Int.zero_mul];rfl)) ?_
 refine aB 1 rfl<|f_Q (o_shr rfl rfl (by decide) 0 (shr32 hy)) ?_
 refine f_Q (lA rfl rfl _ (show IntKind.u64.wrap (0+0)=0 from rfl))<|aB 1 rfl<|aD kh7<|aG fun kh8=>aB 1 rfl<|f_Q (o_and rfl rfl 0 (by decide)) ?_;refine aB 1 rfl<|aD kh8<|aG fun kh9=>aB 1 rfl<|f_Q (o_shr rfl rfl (by decide) 0 (by decide)) ?_
 refine aB 1 rfl<|aD kh9<|aG fun kh10=>aB 3 rfl<|f_Q (o_mul rfl rfl _ (show IntKind.u64.wrap (1*0)=0 from rfl))<|f_Q (lA rfl rfl _ (show IntKind.u64.wrap (0+0)=0 from rfl))<|aB 1 rfl<|aD kh10<|aG fun kh11=>aB 2 rfl ?_
 refine f_Q (o_mul rfl rfl _ (show IntKind.u64.wrap (0*0)=0 from rfl))<|aB 1 rfl<|f_Q (lA rfl rfl _ (show IntKind.u64.wrap (0+0)=0 from rfl))<|aB 1 rfl<|f_Q (o_shr rfl rfl (by decide) 0 (by decide)) ?_;refine f_Q (lA rfl rfl _ (show IntKind.u64.wrap (0+0)=0 from rfl))<|aB 1 rfl<|aD kh11<|aG fun kh12=>aB 2 rfl<|f_Q (o_mul rfl rfl _ (show IntKind.u64.wrap (1*(y:Int))=(y:Int) from by rw [Int.one_mul];exact iQ aA)) ?_;refine aB 1 rfl<|aD kh12<|aY ?_
 exact cZ [] Tryz.results108 rfl rfl aP ⟨rfl,rfl⟩
theorem Mul_spec (y:Nat) (w:World) (hy:y<4294967296):Meets Tryz.prog 61 [.int .u64 1,.int .u64 (y:Int)] w [] (fun u m=>u= .tuple #[.int .u64 0,.int .u64 (y:Int)]∧m=[]):=by
 refine bE Tryz.func61 rfl Tryz.ntmps61 rfl Owns.nil<|aG fun kh1=>aB 2 rfl<|aD kh1<|aS fun kh2=>iJ rfl<|bV kh2<|aG fun kh3=>aB 2 rfl ?_
 refine f_S (aV Tryz.call108 rfl (fun F J=>Mul64_spec y F hy) ?_);rintro _ _ ⟨rfl,rfl⟩;dsimp only [aK,aJ];refine aB 5 rfl<|aD kh3<|aG fun kh4=>aB 4 rfl<|aD kh4<|aY ?_
 exact cZ [] Tryz.results61 rfl rfl aP ⟨rfl,rfl⟩
theorem i2 (b off cx N:Nat) (x:Int) (w:World) (hx:Ro (Fr w []) w (some ⟨b,off,none⟩) [.int .u64 x]) (hN:1≤N∧N≤1000000):Meets Tryz.prog 26 [.slice (some ⟨b,off,none⟩) 1 cx,.int .i64 (N:Int)] w [] (fun u m=>∃ bN,u= .slice (some ⟨bN,0,none⟩) N N∧m=[[(bN,blk (List.replicate N (.int .u64 x)) 46)]]):=by
 obtain ⟨b',o',e',O,U⟩:=hx aN
 obtain ⟨rfl,rfl⟩:b=b'∧off=o' :=by cases e';exact ⟨rfl,rfl⟩
 refine bE Tryz.func26 rfl Tryz.ntmps26 rfl Owns.nil<|aG fun kh1=>aB 1 rfl<|aD kh1<|aS fun kh2=>aG fun kh3=>aB 2 rfl<|aD kh3<|aX rfl (fun c10=>?_) (fun c10=>?_)
 ·omega -- closed
 ·refine bV kh2<|aG fun kh4=>aB 1 rfl<|dU mS rfl<|f_Q (g5 Tryz.runUnderlying3 Tryz.runUnderlying118 rfl _ (iQ aA)) ?_
  refine aB 1 rfl<|f_Q (g5 Tryz.runUnderlying3 Tryz.runUnderlying118 rfl _ (iQ aA)) ?_
  refine f_S (aV Tryz.call61 rfl (fun Z aa=>Mul_spec N Z aA) ?_);rintro _ _ ⟨rfl,rfl⟩;dsimp only [aK,aJ];refine aB 5 rfl<|aD kh4<|aS fun kh5=>aG fun kh6=>aB 3 rfl<|iY 23 rfl (by decide) ?_
  refine aB 3 rfl<|aD kh6<|aX rfl (fun c26=>?_) (fun c26=>?_)
  ·omega -- closed
  ·refine bV kh5<|aG fun kh7=>aB 1 rfl<|f_Q (g5 Tryz.runUnderlying118 Tryz.runUnderlying3 rfl _ (d7 aA)) ?_
   refine f_S (eZ q6 rfl rfl N rfl aA aA (iW N 0 (.int .u64 0) (.int .u64 x)) (by rw [rep_flat];simp [iW]) fun F=>?_);refine aB 1 rfl<|aD kh7<|aG fun kh8=>aB 2 rfl<|f_S (o_copy Tryz.underlying41 (by kernel_rfl) rfl rfl (cs:=[.int .u64 x]) (oO _ _ fun j v hj=>rdS O (U j v hj)) (by simp [Nat.min_def];omega) rfl (by rw [qT aA];simp;omega) (iW N 1 (.int .u64 0) (.int .u64 x)) (oE (m:=1) aA _ _) ?_)
   refine aB 1 rfl<|aD kh8<|aS fun kh9=>aR ?_
   refine dA (α:=Nat) [7] (fun n=>[(8,.int .i64 (n:Int))]) (fun n=>[[(F,blk (iW N n (.int .u64 0) (.int .u64 x)) 46)]]) (fun n=>1≤n∧n≤N) (fun n=>N - n) (1) ?_ ?_ ?_ ?_
   ·exact aF
   ·exact aC
   ·exact ⟨Nat.le_refl _,hN.1⟩
   ·rintro n ⟨X,Y⟩;refine aS fun J=>aG fun kh11=>aB 2 rfl<|dU mS rfl<|aB 1 rfl<|aD kh11<|aX rfl (fun c37=>?_) (fun c37=>?_)
    ·refine bV J<|aR<|c7 [] rfl<|f_T 0 rfl (aU rfl)<|f_T 1 rfl (aU rfl)<|f_T 2 rfl (aU rfl)<|f_T 3 rfl (f7 mS rfl rfl rfl rfl (fun h=>by cases h) n _ _ (.inr ⟨_,_,rfl,aA⟩) (.inl ⟨rfl,rfl⟩) (.inl ⟨rfl,rfl⟩) ⟨aA,aA,aA⟩ (.slice (some ⟨F,n,none⟩) (N - n) (N - n)) (by rw [if_neg aA];simp [dG])) ?_
     refine f_T 4 rfl (aU rfl)<|f_T 5 rfl (aU rfl)<|f_T 6 rfl (f7 mS rfl rfl rfl rfl (fun h=>by cases h) 0 n _ (.inl ⟨rfl,rfl⟩) (.inr ⟨_,_,rfl,aA⟩) (.inl ⟨rfl,rfl⟩) ⟨aA,aA,aA⟩ (.slice (some ⟨F,0,none⟩) n N) (by rw [if_neg aA];simp [dG])) ?_
     refine f_O 7 rfl (o_copy Tryz.underlying41 (by kernel_rfl) rfl rfl (cs:=List.replicate (min n (N - n)) (.int .u64 x)) (oO _ _ fun j v hj=>rdA (by rw [Nat.zero_add];exact fillTo_get (rep_take hj))) (by rw [List.length_replicate]) (rep_one rfl) (by rw [qT aA,List.length_replicate];omega) (iW N (n+min n (N - n)) (.int .u64 0) (.int .u64 x)) (by rw [List.length_replicate];exact oE aA _ _) ⟨aC,?_⟩);refine f_T 8 rfl (lA rfl rfl _ (show IntKind.i64.wrap ((n:Int)+((List.replicate (min n (N - n)) (Value.int .u64 x)).length:Int))=((n+min n (N - n):Nat):Int) from by rw [List.length_replicate,d7 aA];omega)) ?_;refine f_O 9 rfl ((bI rfl).does ⟨aC,?_⟩);refine cU aW<|dF ?_
     refine cS (a6 (n+min n (N - n)) aA ⟨aA,aA⟩ ?_ ?_ ?_)
     ·exact aF
     ·exact aF
     ·exact aC
    ·refine cN<|cO<|cO<|eC<|bO kh9<|aG fun kh12=>aB 2 rfl<|aD kh12<|aY ?_
     exact bJ [[(F,blk (List.replicate N (.int .u64 x)) 46)]] Tryz.results26 rfl (by rw [← fillTo_all (show n=N by omega) (.int .u64 0)];exact aM aP) ⟨F,rfl,rfl⟩
theorem j1 (b off cx N:Nat) (x:Int) (w:World) (hx:Ro (Fr w []) w (some ⟨b,off,none⟩) [.int .i64 x]) (hN:1≤N∧N≤1000000):Meets Tryz.prog 63 [.slice (some ⟨b,off,none⟩) 1 cx,.int .i64 (N:Int)] w [] (fun u m=>∃ bN,u= .slice (some ⟨bN,0,none⟩) N N∧m=[[(bN,blk (List.replicate N (.int .i64 x)) 3)]]):=by
 obtain ⟨b',o',e',O,U⟩:=hx aN
 obtain ⟨rfl,rfl⟩:b=b'∧off=o' :=by cases e';exact ⟨rfl,rfl⟩
 refine bE Tryz.func63 rfl Tryz.ntmps63 rfl Owns.nil<|aG fun kh1=>aB 1 rfl<|aD kh1<|aS fun kh2=>aG fun kh3=>aB 2 rfl<|aD kh3<|aX rfl (fun c10=>?_) (fun c10=>?_)
 ·omega -- closed
 ·refine bV kh2<|aG fun kh4=>aB 1 rfl<|dU bX rfl<|f_Q (g5 Tryz.runUnderlying3 Tryz.runUnderlying118 rfl _ (iQ aA)) ?_
  refine aB 1 rfl<|f_Q (g5 Tryz.runUnderlying3 Tryz.runUnderlying118 rfl _ (iQ aA)) ?_
  refine f_S (aV Tryz.call61 rfl (fun Z aa=>Mul_spec N Z aA) ?_);rintro _ _ ⟨rfl,rfl⟩;dsimp only [aK,aJ];refine aB 5 rfl<|aD kh4<|aS fun kh5=>aG fun kh6=>aB 3 rfl<|iY 23 rfl (by decide) ?_
  refine aB 3 rfl<|aD kh6<|aX rfl (fun c26=>?_) (fun c26=>?_)
  ·omega -- closed
  ·refine bV kh5<|aG fun kh7=>aB 1 rfl<|f_Q (g5 Tryz.runUnderlying118 Tryz.runUnderlying3 rfl _ (d7 aA)) ?_
   refine f_S (eZ eL rfl rfl N rfl aA aA (iW N 0 (.int .i64 0) (.int .i64 x)) (by rw [rep_flat];simp [iW]) fun F=>?_);refine aB 1 rfl<|aD kh7<|aG fun kh8=>aB 2 rfl<|f_S (o_copy Tryz.underlying25 (by kernel_rfl) rfl rfl (cs:=[.int .i64 x]) (oO _ _ fun j v hj=>rdS O (U j v hj)) (by simp [Nat.min_def];omega) rfl (by rw [qT aA];simp;omega) (iW N 1 (.int .i64 0) (.int .i64 x)) (oE (m:=1) aA _ _) ?_)
   refine aB 1 rfl<|aD kh8<|aS fun kh9=>aR ?_
   refine dA (α:=Nat) [7] (fun n=>[(8,.int .i64 (n:Int))]) (fun n=>[[(F,blk (iW N n (.int .i64 0) (.int .i64 x)) 3)]]) (fun n=>1≤n∧n≤N) (fun n=>N - n) (1) ?_ ?_ ?_ ?_
   ·exact aF
   ·exact aC
   ·exact ⟨Nat.le_refl _,hN.1⟩
   ·rintro n ⟨X,Y⟩;refine aS fun J=>aG fun kh11=>aB 2 rfl<|dU bX rfl<|aB 1 rfl<|aD kh11<|aX rfl (fun c37=>?_) (fun c37=>?_)
    ·refine bV J<|aR<|c7 [] rfl<|f_T 0 rfl (aU rfl)<|f_T 1 rfl (aU rfl)<|f_T 2 rfl (aU rfl)<|f_T 3 rfl (f7 bX rfl rfl rfl rfl (fun h=>by cases h) n _ _ (.inr ⟨_,_,rfl,aA⟩) (.inl ⟨rfl,rfl⟩) (.inl ⟨rfl,rfl⟩) ⟨aA,aA,aA⟩ (.slice (some ⟨F,n,none⟩) (N - n) (N - n)) (by rw [if_neg aA];simp [dG])) ?_
     refine f_T 4 rfl (aU rfl)<|f_T 5 rfl (aU rfl)<|f_T 6 rfl (f7 bX rfl rfl rfl rfl (fun h=>by cases h) 0 n _ (.inl ⟨rfl,rfl⟩) (.inr ⟨_,_,rfl,aA⟩) (.inl ⟨rfl,rfl⟩) ⟨aA,aA,aA⟩ (.slice (some ⟨F,0,none⟩) n N) (by rw [if_neg aA];simp [dG])) ?_
     refine f_O 7 rfl (o_copy Tryz.underlying25 (by kernel_rfl) rfl rfl (cs:=List.replicate (min n (N - n)) (.int .i64 x)) (oO _ _ fun j v hj=>rdA (by rw [Nat.zero_add];exact fillTo_get (rep_take hj))) (by rw [List.length_replicate]) (rep_one rfl) (by rw [qT aA,List.length_replicate];omega) (iW N (n+min n (N - n)) (.int .i64 0) (.int .i64 x)) (by rw [List.length_replicate];exact oE aA _ _) ⟨aC,?_⟩);refine f_T 8 rfl (lA rfl rfl _ (show IntKind.i64.wrap ((n:Int)+((List.replicate (min n (N - n)) (Value.int .i64 x)).length:Int))=((n+min n (N - n):Nat):Int) from by rw [List.length_replicate,d7 aA];omega)) ?_;refine f_O 9 rfl ((bI rfl).does ⟨aC,?_⟩);refine cU aW<|dF ?_
     refine cS (a6 (n+min n (N - n)) aA ⟨aA,aA⟩ ?_ ?_ ?_)
     ·exact aF
     ·exact aF
     ·exact aC
    ·refine cN<|cO<|cO<|eC<|bO kh9<|aG fun kh12=>aB 2 rfl<|aD kh12<|aY ?_
     exact bJ [[(F,blk (List.replicate N (.int .i64 x)) 3)]] Tryz.results63 rfl (by rw [← fillTo_all (show n=N by omega) (.int .i64 0)];exact aM aP) ⟨F,rfl,rfl⟩
abbrev dJ (bT bA N:Nat) (sl:Value) (m:Seg) (at_:List Int):List Seg:=[[(bT,blk [sl,.slice (some ⟨bA,0,none⟩) N N,.func (.func 109) #[] #[]] 191)],m,[(bA,blk (bF at_) 3)]]
theorem inv_Len (p : Option Addr) (args : Array Value) (w : World) : (callMethod (.iface 187 (.pointer p)) "Len" args).run Tryz.prog w = .ok (.enter 217 (#[.pointer p] ++ args)) w := by kernel_rfl
theorem inv_Less (p : Option Addr) (args : Array Value) (w : World) : (callMethod (.iface 187 (.pointer p)) "Less" args).run Tryz.prog w = .ok (.enter 218 (#[.pointer p] ++ args)) w := by kernel_rfl
theorem inv_Swap (p : Option Addr) (args : Array Value) (w : World) : (callMethod (.iface 187 (.pointer p)) "Swap" args).run Tryz.prog w = .ok (.enter 221 (#[.pointer p] ++ args)) w := by kernel_rfl
theorem inv_Push (p : Option Addr) (args : Array Value) (w : World) : (callMethod (.iface 187 (.pointer p)) "Push" args).run Tryz.prog w = .ok (.enter 220 (#[.pointer p] ++ args)) w := by kernel_rfl
theorem inv_Pop (p : Option Addr) (args : Array Value) (w : World) : (callMethod (.iface 187 (.pointer p)) "Pop" args).run Tryz.prog w = .ok (.enter 219 (#[.pointer p] ++ args)) w := by kernel_rfl
theorem l6 (l:List Int) (i:Nat) (x:Int):(bF l).set i (.int .i64 x)=bF (l.set i x):=by simp [bF,List.map_set]
theorem ints_at {l:List Int} {i:Nat} {x:Int} (h:l[i]? =some x):(bF l)[i]? =some (.int .i64 x):=by simp [bF,h]
theorem par_div (j:Nat):((j:Int) - 1).tdiv 2=(par j:Int):=by
 cases j with
 |zero=>rfl
 |succ k=>rw [show (((k+1:Nat):Int) - 1)=(k:Int) from by omega];exact tdiv_nat k 2
theorem wrap_par {j:Nat} (h:j≤1000000):IntKind.i64.wrap (((j:Int) - 1).tdiv 2)=(par j:Int):=by rw [par_div];exact d7 (by unfold par;omega)
theorem wrap_two {i:Nat} (h:i≤1000000):IntKind.i64.wrap (2*(i:Int)+1)=((2*i+1:Nat):Int):=by rw [d7 aA];omega
theorem wrap_two2 {i:Nat} (h:i≤1000000):IntKind.i64.wrap (((2*i+1:Nat):Int)+1)=((2*i+2:Nat):Int):=by rw [d7 aA];omega
theorem pars {c i:Nat} (F:0<c) (h:par c=i):c=2*i+1∨c=2*i+2:=by unfold par at h;omega
def Left (bT bA N:Nat) (sl:Value) (l:List Ent) (n:Nat) (own:List Seg) (G:List Ent→Prop):Prop:=
 ∃ l' m' at',own=dJ bT bA N sl m' at'∧Own 193 2 sl l'.length (l'.flatMap eD) m'∧HOk l' at'∧at'.length=N∧l'.Perm l∧l'.drop n=l.drop n∧G l'
theorem Ahead_spec (a b:Ent) (w:World):Meets Tryz.prog 109 [.agg (eD a).toArray,.agg (eD b).toArray] w [] (fun u m=>u= .bool (decide (elt a b))∧m=[]):=by
 refine bE Tryz.func109 rfl Tryz.ntmps109 rfl Owns.nil<|aG fun kh1=>f_S (cT rfl rfl fun O=>?_)
 refine f_S (cT rfl rfl fun J=>?_);refine aB 1 rfl<|aD kh1<|aS fun kh2=>aG fun kh3=>cL qX rfl<|cX Tryz.isAgg46 rfl (rdA rfl)<|cL qX rfl<|cX Tryz.isAgg46 rfl (rdA rfl)<|aB 1 rfl<|aD kh3<|aX rfl (fun c9=>?_) (fun c9=>?_)
 ·refine aG fun F=>cL qX rfl<|cX Tryz.isAgg46 rfl (rdA rfl)<|cL qX rfl<|cX Tryz.isAgg46 rfl (rdA rfl)<|aB 2 rfl<|aD F<|aY<|cV ?_
  exact bJ [] Tryz.results109 rfl aP ⟨by congr 1;exact decide_eq_decide.2 (by unfold elt;omega),rfl⟩
 ·refine bV kh2<|aG fun kh5=>cL mY rfl<|cX Tryz.isAgg3 rfl (rdA rfl)<|cL mY rfl<|cX Tryz.isAgg3 rfl (rdA rfl)<|aB 2 rfl<|aD kh5<|aY ?_
  exact bJ [] Tryz.results109 rfl aP ⟨by congr 1;exact decide_eq_decide.2 (by unfold elt;omega),rfl⟩
theorem TLen_spec (bT bA N:Nat) (A:Option Addr) (cap:Nat) (m:Seg) (at_:List Int) (l:List Ent) (w:World) (hw:Owns w (dJ bT bA N (.slice A l.length cap) m at_)):Meets Tryz.prog 217 [.pointer (some ⟨bT,0,none⟩)] w (dJ bT bA N (.slice A l.length cap) m at_) (fun u own' =>u= .int .i64 (l.length:Int)∧own' =dJ bT bA N (.slice A l.length cap) m at_):=by
 refine bE Tryz.func217 rfl Tryz.ntmps217 rfl hw ?_
 unfold dJ
 refine aG fun kh1=>aB 1 rfl<|aD kh1<|aG fun kh2=>aB 1 rfl<|f_Q (dH rfl)<|cL fW rfl<|cX Tryz.isAgg188 rfl (rdA rfl)<|dU jK rfl<|aB 1 rfl ?_
 refine aD kh2<|aY ?_
 exact bJ (dJ bT bA N (.slice A l.length cap) m at_) Tryz.results217 rfl (by repeat (first|exact aP|refine aM ?_|refine cE rfl ?_)) ⟨rfl,rfl⟩
theorem Less_spec (bT bA N:Nat) (A:Option Addr) (cap:Nat) (m:Seg) (at_:List Int) (l:List Ent) (i j:Nat) (w:World) (ho:Own 193 2 (.slice A l.length cap) l.length (l.flatMap eD) m) (hi:i<l.length) (hj:j<l.length) (hw:Owns w (dJ bT bA N (.slice A l.length cap) m at_)):Meets Tryz.prog 218 [.pointer (some ⟨bT,0,none⟩),.int .i64 (i:Int),.int .i64 (j:Int)] w (dJ bT bA N (.slice A l.length cap) m at_) (fun u own' =>u= .bool (decide (elt (eg l i) (eg l j)))∧own' =dJ bT bA N (.slice A l.length cap) m at_):=by
 obtain ⟨bl,sp,rfl,rfl,F⟩:=ho.upd aA
 refine bE Tryz.func218 rfl Tryz.ntmps218 rfl hw ?_
 unfold dJ
 refine aG fun kh1=>aB 1 rfl<|aD kh1<|aS fun kh2=>gG 18 rfl aW<|dI 1 rfl<|dB (dH rfl)<|dB (aT fa191_2 rfl)<|gC Tryz.isAgg189 rfl (rdA rfl)<|dI 1 rfl ?_
 refine dB (dH rfl)<|dB (aT fW rfl)<|gC Tryz.isAgg188 rfl (rdA rfl)<|dI 1 rfl<|dB (aL jK rfl rfl (i*2))<|dB (aO (vs:=eD (eg l i)) Tryz.isAgg193 Tryz.sizeOf193 rfl rfl (by rw [i5 hi];exact jL eB hi)) ?_;refine dI 1 rfl<|dB (dH rfl)<|dB (aT fW rfl)<|gC Tryz.isAgg188 rfl (rdA rfl)<|dI 1 rfl<|dB (aL jK rfl rfl (j*2))<|dB (aO (vs:=eD (eg l j)) Tryz.isAgg193 Tryz.sizeOf193 rfl rfl (by rw [i5 hj];exact jL eB hj)) ?_
 refine eI (iX ?_);refine f_S (jG [] _ Tryz.call109 rfl rfl Sub.refl (fun J O=>Ahead_spec (eg l i) (eg l j) J) ?_);rintro _ _ ⟨rfl,rfl⟩;dsimp only [aK,aJ];refine aB 1 rfl<|aD kh2<|aY ?_
 exact bJ (dJ bT bA N (.slice (some ⟨bl,0,none⟩) l.length cap) [(bl,blk (l.flatMap eD++sp) 193)] at_) Tryz.results218 rfl (by repeat (first|exact aP|refine aM ?_|refine cE rfl ?_)) ⟨rfl,rfl⟩
theorem Swap_spec (bT bA N:Nat) (A:Option Addr) (cap:Nat) (m:Seg) (at_:List Int) (l:List Ent) (i j:Nat) (w:World) (ho:Own 193 2 (.slice A l.length cap) l.length (l.flatMap eD) m) (Y:HOk l at_) (hN:at_.length=N) (hi:i<l.length) (hj:j<l.length) (hw:Owns w (dJ bT bA N (.slice A l.length cap) m at_)):Meets Tryz.prog 221 [.pointer (some ⟨bT,0,none⟩),.int .i64 (i:Int),.int .i64 (j:Int)] w (dJ bT bA N (.slice A l.length cap) m at_) (fun u own' =>u= .tuple #[]∧∃ m',own' =dJ bT bA N (.slice A l.length cap) m' (swAt l at_ i j)∧Own 193 2 (.slice A l.length cap) l.length ((sw l i j).flatMap eD) m'):=by
 obtain ⟨bl,sp,rfl,rfl,O⟩:=ho.upd aA
 have hai:=Y.lt hi
 have Z:=Y.lt hj
 have J:=sw_len l i j
 have F:eg (sw l i j) i=eg l j:=by rw [eg_sw hi hj];split<;>simp_all
 have X:eg (sw l i j) j=eg l i:=by rw [eg_sw hi hj,if_pos rfl]
 refine bE Tryz.func221 rfl Tryz.ntmps221 rfl hw ?_
 unfold dJ
 refine aS fun U=>c7 [[(bT,blk [.slice (some ⟨bl,0,none⟩) l.length cap,.slice (some ⟨bA,0,none⟩) N N,.func (.func 109) #[] #[]] 191)]] rfl<|f_T 0 rfl (aU rfl)<|f_T 1 rfl (dH rfl)<|f_T 2 rfl (aT fW rfl)<|f_T 3 rfl (aH Tryz.isAgg188 rfl (rdA rfl))<|f_T 4 rfl (aU rfl)<|f_T 5 rfl (aU rfl)<|f_T 6 rfl (dH rfl)<|f_T 7 rfl (aT fW rfl) ?_
 refine f_T 8 rfl (aH Tryz.isAgg188 rfl (rdA rfl))<|f_T 9 rfl (aU rfl)<|f_T 10 rfl (aU rfl)<|f_T 11 rfl (dH rfl)<|f_T 12 rfl (aT fW rfl)<|f_T 13 rfl (aH Tryz.isAgg188 rfl (rdA rfl))<|f_T 14 rfl (aU rfl)<|f_T 15 rfl (aL jK rfl rfl (j*2))<|f_T 17 rfl (aU rfl)<|f_T 18 rfl (dH rfl) ?_
 refine f_T 19 rfl (aT fW rfl)<|f_T 20 rfl (aH Tryz.isAgg188 rfl (rdA rfl))<|f_T 21 rfl (aU rfl)<|f_T 22 rfl (aL jK rfl rfl (i*2))<|gH 16 23 rfl rfl aW rfl rfl rfl rfl rfl rfl ?_ ?_
 ·refine (aO (vs:=eD (eg l j)) Tryz.isAgg193 Tryz.sizeOf193 rfl rfl (by rw [i5 hj];exact jL eB hj)).does ⟨aC,?_⟩;refine f_O 23 rfl ((aO (vs:=eD (eg l i)) Tryz.isAgg193 Tryz.sizeOf193 rfl rfl (by rw [i5 hi];exact jL eB hi)).does ⟨aC,?_⟩);refine f_T 24 rfl (aL jK rfl rfl (i*2))<|fZ 25 rfl (bP Tryz.sizeOf193 rfl rfl rfl rfl (by rw [List.length_append,dO eD eB];simp [eD];omega) ((l.set i (eg l j)).flatMap eD++sp) (jU eB sp l i (eg l j) hi) ⟨aC,?_⟩)
  refine f_T 26 rfl (aL jK rfl rfl (j*2))<|fZ 27 rfl (bP Tryz.sizeOf193 rfl rfl rfl rfl (by rw [List.length_append,dO eD eB,List.length_set];simp [eD];omega) ((sw l i j).flatMap eD++sp) (jU eB sp (l.set i (eg l j)) j (eg l i) (by simpa using hj)) ⟨aC,?_⟩)
  refine cU aW<|bO U<|c7 [[(bT,blk [.slice (some ⟨bl,0,none⟩) l.length cap,.slice (some ⟨bA,0,none⟩) N N,.func (.func 109) #[] #[]] 191)],[(bl,blk ((sw l i j).flatMap eD++sp) 193)]] rfl<|f_T 0 rfl (aU rfl)<|f_T 1 rfl (dH rfl)<|f_T 2 rfl (aT lT rfl)<|f_T 3 rfl (aH Tryz.isAgg25 rfl (rdA rfl))<|f_T 4 rfl (aU rfl)<|f_T 5 rfl (dH rfl)<|f_T 6 rfl (aT fW rfl) ?_
  refine f_T 7 rfl (aH Tryz.isAgg188 rfl (rdA rfl))<|f_T 8 rfl (aU rfl)<|f_T 9 rfl (aL jK rfl rfl (i*2))<|f_T 10 rfl (aT mY rfl)<|f_T 11 rfl (aH Tryz.isAgg3 rfl (rdOwn (v:= .int .i64 ((eg l j).id:Int)) eB aA (by rw [← i5 aA,F];rfl))) ?_
  refine f_T 12 rfl (aU rfl)<|f_T 13 rfl (dH rfl)<|f_T 14 rfl (aT lT rfl)<|f_T 15 rfl (aH Tryz.isAgg25 rfl (rdA rfl))<|f_T 16 rfl (aU rfl)<|f_T 17 rfl (dH rfl)<|f_T 18 rfl (aT fW rfl)<|f_T 19 rfl (aH Tryz.isAgg188 rfl (rdA rfl))<|f_T 20 rfl (aU rfl)<|f_T 21 rfl (aL jK rfl rfl (j*2)) ?_
  refine f_T 22 rfl (aT mY rfl)<|f_T 23 rfl (aH Tryz.isAgg3 rfl (rdOwn (v:= .int .i64 ((eg l i).id:Int)) eB aA (by rw [← i5 aA,X];rfl))) ?_
  refine f_T 24 rfl (aU rfl)<|f_T 25 rfl (aU rfl)<|f_T 26 rfl (aL bX rfl rfl ((eg l j).id))<|fZ 27 rfl (bU Tryz.sizeOf3 rfl rfl rfl rfl (by rw [a7];omega) (bF (at_.set (eg l j).id (i:Int))) (l6 _ _ _) ⟨aC,?_⟩)
  refine f_T 28 rfl (aL bX rfl rfl ((eg l i).id))<|fZ 29 rfl (bU Tryz.sizeOf3 rfl rfl rfl rfl (by rw [a7,List.length_set];omega) (bF (swAt l at_ i j)) (l6 _ _ _) ⟨aC,?_⟩)
  refine cU aW ?_;exact iP (dJ bT bA N (.slice (some ⟨bl,0,none⟩) l.length cap) [(bl,blk ((sw l i j).flatMap eD++sp) 193)] (swAt l at_ i j)) Tryz.results221 (by repeat (first|exact aP|refine aM ?_|refine cE rfl ?_)) ⟨rfl,_,rfl,O _ (by rw [dO eD eB,dO eD eB,J])⟩
 ·refine (aO (vs:=eD (eg l i)) Tryz.isAgg193 Tryz.sizeOf193 rfl rfl (by rw [i5 hi];exact jL eB hi)).does ⟨aC,?_⟩;refine f_O 16 rfl ((aO (vs:=eD (eg l j)) Tryz.isAgg193 Tryz.sizeOf193 rfl rfl (by rw [i5 hj];exact jL eB hj)).does ⟨aC,?_⟩);refine f_T 24 rfl (aL jK rfl rfl (i*2))<|fZ 25 rfl (bP Tryz.sizeOf193 rfl rfl rfl rfl (by rw [List.length_append,dO eD eB];simp [eD];omega) ((l.set i (eg l j)).flatMap eD++sp) (jU eB sp l i (eg l j) hi) ⟨aC,?_⟩)
  refine f_T 26 rfl (aL jK rfl rfl (j*2))<|fZ 27 rfl (bP Tryz.sizeOf193 rfl rfl rfl rfl (by rw [List.length_append,dO eD eB,List.length_set];simp [eD];omega) ((sw l i j).flatMap eD++sp) (jU eB sp (l.set i (eg l j)) j (eg l i) (by simpa using hj)) ⟨aC,?_⟩)
  refine cU aW<|bO U<|c7 [[(bT,blk [.slice (some ⟨bl,0,none⟩) l.length cap,.slice (some ⟨bA,0,none⟩) N N,.func (.func 109) #[] #[]] 191)],[(bl,blk ((sw l i j).flatMap eD++sp) 193)]] rfl<|f_T 0 rfl (aU rfl)<|f_T 1 rfl (dH rfl)<|f_T 2 rfl (aT lT rfl)<|f_T 3 rfl (aH Tryz.isAgg25 rfl (rdA rfl))<|f_T 4 rfl (aU rfl)<|f_T 5 rfl (dH rfl)<|f_T 6 rfl (aT fW rfl) ?_
  refine f_T 7 rfl (aH Tryz.isAgg188 rfl (rdA rfl))<|f_T 8 rfl (aU rfl)<|f_T 9 rfl (aL jK rfl rfl (i*2))<|f_T 10 rfl (aT mY rfl)<|f_T 11 rfl (aH Tryz.isAgg3 rfl (rdOwn (v:= .int .i64 ((eg l j).id:Int)) eB aA (by rw [← i5 aA,F];rfl))) ?_
  refine f_T 12 rfl (aU rfl)<|f_T 13 rfl (dH rfl)<|f_T 14 rfl (aT lT rfl)<|f_T 15 rfl (aH Tryz.isAgg25 rfl (rdA rfl))<|f_T 16 rfl (aU rfl)<|f_T 17 rfl (dH rfl)<|f_T 18 rfl (aT fW rfl)<|f_T 19 rfl (aH Tryz.isAgg188 rfl (rdA rfl))<|f_T 20 rfl (aU rfl)<|f_T 21 rfl (aL jK rfl rfl (j*2)) ?_
  refine f_T 22 rfl (aT mY rfl)<|f_T 23 rfl (aH Tryz.isAgg3 rfl (rdOwn (v:= .int .i64 ((eg l i).id:Int)) eB aA (by rw [← i5 aA,X];rfl))) ?_
  refine f_T 24 rfl (aU rfl)<|f_T 25 rfl (aU rfl)<|f_T 26 rfl (aL bX rfl rfl ((eg l j).id))<|fZ 27 rfl (bU Tryz.sizeOf3 rfl rfl rfl rfl (by rw [a7];omega) (bF (at_.set (eg l j).id (i:Int))) (l6 _ _ _) ⟨aC,?_⟩)
  refine f_T 28 rfl (aL bX rfl rfl ((eg l i).id))<|fZ 29 rfl (bU Tryz.sizeOf3 rfl rfl rfl rfl (by rw [a7,List.length_set];omega) (bF (swAt l at_ i j)) (l6 _ _ _) ⟨aC,?_⟩)
  refine cU aW ?_;exact iP (dJ bT bA N (.slice (some ⟨bl,0,none⟩) l.length cap) [(bl,blk ((sw l i j).flatMap eD++sp) 193)] (swAt l at_ i j)) Tryz.results221 (by repeat (first|exact aP|refine aM ?_|refine cE rfl ?_)) ⟨rfl,_,rfl,O _ (by rw [dO eD eB,dO eD eB,J])⟩
theorem TPop_spec (bT bA N:Nat) (A:Option Addr) (cap:Nat) (m:Seg) (at_:List Int) (l:List Ent) (n:Nat) (w:World) (ho:Own 193 2 (.slice A l.length cap) l.length (l.flatMap eD) m) (J:HOk l at_) (Y:at_.length=N) (hn:l.length=n+1) (F:l.length≤cap∧cap≤9223372036854775807) (hw:Owns w (dJ bT bA N (.slice A l.length cap) m at_)):Meets Tryz.prog 219 [.pointer (some ⟨bT,0,none⟩)] w (dJ bT bA N (.slice A l.length cap) m at_) (fun u own' =>own' =dJ bT bA N (.slice A n cap) m (at_.set (eg l n).id (-1))):=by
 obtain ⟨bl,sp,rfl,rfl,O⟩:=ho.upd aA
 have U:=J.lt (i:=n) aA
 refine bE Tryz.func219 rfl Tryz.ntmps219 rfl hw ?_
 unfold dJ
 refine aG fun kh1=>aB 1 rfl<|aD kh1<|aG fun kh2=>aB 1 rfl<|f_Q (dH rfl)<|cL fW rfl<|cX Tryz.isAgg188 rfl (rdA rfl)<|dU jK rfl<|f_Q (kM rfl rfl _ (show IntKind.i64.wrap ((l.length:Int) - 1)=(n:Int) from by rw [d7 aA];omega)) ?_
 refine aB 1 rfl<|aD kh2<|aG fun kh3=>aB 1 rfl<|f_Q (dH rfl)<|cL fW rfl<|cX Tryz.isAgg188 rfl (rdA rfl)<|aB 1 rfl<|f_Q (aL jK rfl rfl (n*2))<|f_Q (aO (vs:=eD (eg l n)) Tryz.isAgg193 Tryz.sizeOf193 rfl rfl (by rw [i5 (show n<l.length by omega)];exact jL eB aA)) ?_
 refine f_S (cQ Tryz.zeroValue193 rfl fun X=>?_);refine f_Z (bP Tryz.sizeOf193 rfl rfl rfl rfl cF _ rfl ?_);refine aD kh3<|aG fun kh4=>aB 2 rfl<|f_Q (dH rfl)<|cL fW rfl<|cX Tryz.isAgg188 rfl (rdA rfl)<|aB 1 rfl<|f_Q (f7 jK rfl rfl rfl rfl (fun h=>by cases h) 0 n _ (.inl ⟨rfl,rfl⟩) (.inr ⟨_,_,rfl,aA⟩) (.inl ⟨rfl,rfl⟩) ⟨aA,aA,aA⟩ (.slice (some ⟨bl,0,none⟩) n cap) (by rw [if_neg aA];simp [dG])) ?_
 refine f_Q (dH rfl)<|cL fW rfl<|f_Z (bU Tryz.sizeOf188 rfl rfl rfl rfl cF _ rfl ?_)
 refine aD kh4<|aS fun kh5=>gG 7 rfl aW<|dI 1 rfl<|dB (dH rfl)<|dB (aT lT rfl)<|gC Tryz.isAgg25 rfl (rdA rfl)<|dB (aT mY rfl)<|gC Tryz.isAgg3 rfl (rdA rfl)<|dB (aL bX rfl rfl ((eg l n).id))<|eI (iX ?_)
 refine f_Z (bU Tryz.sizeOf3 rfl rfl rfl rfl (by rw [a7];omega) (bF (at_.set (eg l n).id (-1))) (l6 _ _ _) ?_);refine aD kh5<|aG fun kh6=>f_Q (aO (vs:=[_,_]) Tryz.isAgg193 Tryz.sizeOf193 rfl rfl ⟨(rdA rfl),(rdA rfl),trivial⟩)<|f_Q (qK Tryz.underlying193 rfl rfl)<|aB 1 rfl<|aD kh6<|aY ?_
 exact bJ (dJ bT bA N (.slice (some ⟨bl,0,none⟩) n cap) [(bl,blk (l.flatMap eD++sp) 193)] (at_.set (eg l n).id (-1))) Tryz.results219 rfl (by repeat (first|exact aP|refine aM ?_|refine cE rfl ?_)) rfl
theorem TPush_spec (bT bA N:Nat) (A:Option Addr) (cap:Nat) (m:Seg) (at_:List Int) (l:List Ent) (e:Ent) (w:World) (ho:Own 193 2 (.slice A l.length cap) l.length (l.flatMap eD) m) (hN:at_.length=N) (he:e.id<N) (hl:l.length≤1000000) (hw:Owns w (dJ bT bA N (.slice A l.length cap) m at_)):Meets Tryz.prog 220 [.pointer (some ⟨bT,0,none⟩),.iface 193 (.agg (eD e).toArray)] w (dJ bT bA N (.slice A l.length cap) m at_) (fun u own' =>u= .tuple #[]∧∃ A' cap' m',own' =dJ bT bA N (.slice A' (l++[e]).length cap') m' (at_.set e.id (l.length:Int))∧Own 193 2 (.slice A' (l++[e]).length cap') (l++[e]).length ((l++[e]).flatMap eD) m'):=by
 refine bE Tryz.func220 rfl Tryz.ntmps220 rfl hw ?_
 unfold dJ
 refine aG fun X=>aB 1 rfl<|f_Q (o_assert Tryz.underlying193 rfl rfl)<|f_S (cQ Tryz.zeroValue193 rfl fun b4=>?_)
 refine f_Z (bP Tryz.sizeOf193 rfl rfl rfl rfl cF _ rfl ?_);refine aD X<|aS fun kh2=>gG 12 rfl aW<|dI 1 rfl<|dB (dH rfl)<|dB (aT lT rfl)<|gC Tryz.isAgg25 rfl (rdA rfl)<|dB (aT mY rfl)<|gC Tryz.isAgg3 rfl (rdA rfl)<|dI 1 rfl ?_
 refine dB (dH rfl)<|dB (aT fW rfl)<|gC Tryz.isAgg188 rfl (rdA rfl)<|dB (iH jK rfl)<|dB (aL bX rfl rfl (e.id))<|eI (iX ?_)
 refine f_Z (bU Tryz.sizeOf3 rfl rfl rfl rfl (by rw [a7];omega) (bF (at_.set e.id (l.length:Int))) (l6 _ _ _) ?_);refine aD kh2<|c7 [[(b4,blk (eD e) 193)]] rfl<|f_T 0 rfl (aU rfl)<|f_T 1 rfl (aU rfl)<|f_T 2 rfl (dH rfl)<|f_T 3 rfl (aT fW rfl)<|f_T 5 rfl (aO (vs:=[_,_]) Tryz.isAgg193 Tryz.sizeOf193 rfl rfl ⟨(rdA rfl),(rdA rfl),trivial⟩)<|gH 4 6 rfl rfl aW rfl rfl rfl rfl rfl rfl ?_ ?_
 ·refine (aH Tryz.isAgg188 rfl (rdA rfl)).does ⟨aC,?_⟩;refine f_O 6 rfl (bQ el188 aA rfl rfl rfl fun Y=>⟨aC,?_⟩);refine f_O 7 rfl (dE el188 rfl rfl ho (ys:=eD e) ⟨(rdA rfl),(rdA rfl),trivial⟩ rfl rfl aA aA fun Z U F=>⟨aC,?_⟩);obtain ⟨O,J,rfl,_⟩:=F.val
  refine f_T 8 rfl (dH rfl)<|f_T 9 rfl (aT fW rfl)<|fZ 10 rfl (bU Tryz.sizeOf188 rfl rfl rfl rfl cF _ rfl ⟨aC,?_⟩)
  refine cU aW ?_;have e1:l.flatMap eD++eD e=(l++[e]).flatMap eD:=aN
  rw [e1] at F;have e2:l.length+1=(l++[e]).length:=aN
  rw [e2] at F;exact iP (dJ bT bA N (.slice O (l++[e]).length J) U (at_.set e.id (l.length:Int))) Tryz.results220 (by rw [← e2];repeat (first|exact aP|refine aM ?_|refine cE rfl ?_)) ⟨rfl,_,_,_,rfl,F⟩
 ·refine (bQ el188 aA rfl rfl rfl fun Y=>⟨aC,?_⟩);refine f_O 4 rfl ((aH Tryz.isAgg188 rfl (rdA rfl)).does ⟨aC,?_⟩);refine f_O 7 rfl (dE el188 rfl rfl ho (ys:=eD e) ⟨(rdA rfl),(rdA rfl),trivial⟩ rfl rfl aA aA fun Z U F=>⟨aC,?_⟩);obtain ⟨O,J,rfl,_⟩:=F.val
  refine f_T 8 rfl (dH rfl)<|f_T 9 rfl (aT fW rfl)<|fZ 10 rfl (bU Tryz.sizeOf188 rfl rfl rfl rfl cF _ rfl ⟨aC,?_⟩)
  refine cU aW ?_;have e1:l.flatMap eD++eD e=(l++[e]).flatMap eD:=aN
  rw [e1] at F;have e2:l.length+1=(l++[e]).length:=aN
  rw [e2] at F;exact iP (dJ bT bA N (.slice O (l++[e]).length J) U (at_.set e.id (l.length:Int))) Tryz.results220 (by rw [← e2];repeat (first|exact aP|refine aM ?_|refine cE rfl ?_)) ⟨rfl,_,_,_,rfl,F⟩
theorem up_spec (bT bA N:Nat) (A:Option Addr) (cap:Nat) (m:Seg) (at_:List Int) (l:List Ent) (n j:Nat) (w:World) (ho:Own 193 2 (.slice A l.length cap) l.length (l.flatMap eD) m) (hH:HOk l at_) (hN:at_.length=N) (hU:UpOk l n j) (hj:j<n) (hn:n≤l.length) (hl:l.length≤1000000) (hw:Owns w (dJ bT bA N (.slice A l.length cap) m at_)):Meets Tryz.prog 149 [.iface 187 (.pointer (some ⟨bT,0,none⟩)),.int .i64 (j:Int)] w (dJ bT bA N (.slice A l.length cap) m at_) (fun u own' =>u= .tuple #[]∧Left bT bA N (.slice A l.length cap) l n own' (fun l' =>nW l' n)):=by
 refine bE Tryz.func149 rfl Tryz.ntmps149 rfl hw<|aR ?_
 refine dA (α:=Nat×List Ent×Seg×List Int) [0] (fun ⟨F,l',m',at'⟩=>[(1,.int .i64 (F:Int))]) (fun ⟨F,l',m',at'⟩=>[[(bT,blk [.slice A l.length cap,.slice (some ⟨bA,0,none⟩) N N,.func (.func 109) #[] #[]] 191)],m',[(bA,blk (bF at') 3)]]) (fun ⟨F,l',m',at'⟩=>Own 193 2 (.slice A l'.length cap) l'.length (l'.flatMap eD) m'∧HOk l' at'∧at'.length=N∧UpOk l' n F∧F<n∧l'.Perm l∧l'.drop n=l.drop n) (fun ⟨F,l',m',at'⟩=>F) (j,l,m,at_) ?_ ?_ ?_ ?_
 ·exact aF
 ·exact aC
 ·exact ⟨ho,hH,hN,hU,hj,List.Perm.refl _,rfl⟩
 ·rintro ⟨F,l',m',at'⟩ ⟨O,Y,X,aa,ae,U,ab⟩;have J:=U.length_eq
  have ai:par F≤F:=by unfold par;omega
  refine aR<|aG fun kh1=>aB 1 rfl<|f_Q (jC rfl rfl)<|f_Q (o_quo rfl rfl (by decide) (par F:Int) (wrap_par aA)) ?_
  refine aB 1 rfl<|aD kh1<|aS fun kh2=>aG fun kh3=>aB 4 rfl<|d8 11 rfl (fun g11=>?_) (fun g11=>?_)
  ·refine aB 6 rfl<|aD kh3<|fI rfl<|cN<|cO<|f_bo rfl<|cO<|eC ?_
   have Z:F=0:=by unfold par at g11;omega
   subst Z;exact iP (dJ bT bA N (.slice A l.length cap) m' at') Tryz.results149 (by repeat (first|exact aP|refine aM ?_|refine cE rfl ?_)) ⟨rfl,l',m',at',rfl,by rw [J] at O;rw [J];exact O,Y,X,U,ab,up_zero aa⟩
  ·have Z:0<F:=by unfold par at g11;omega
   have ah:par F<F:=by unfold par;omega
   refine aB 3 rfl ?_;refine jY rfl rfl rfl rfl rfl (i8 (dJ bT bA N (.slice A l'.length cap) m' at') _ (inv_Less (some ⟨bT,0,none⟩)) rfl rfl (by rw [J];unfold dJ;exact aM (aM (aM Sub.refl))) (fun w_ ac=>Less_spec bT bA N A cap m' at' l' F (par F) w_ O aA aA ac.owns) ?_);rintro _ _ ⟨rfl,rfl⟩
   unfold dJ
   rw [J];dsimp only [aK,aJ];refine aB 2 rfl<|aD kh3<|eO rfl (fun c17=>?_) (fun c17=>?_)
   ·refine cN<|cO<|f_bo rfl<|cO<|eC ?_
    exact iP (dJ bT bA N (.slice A l.length cap) m' at') Tryz.results149 (by repeat (first|exact aP|refine aM ?_|refine cE rfl ?_)) ⟨rfl,l',m',at',rfl,by rw [J] at O;rw [J];exact O,Y,X,U,ab,up_stop aa (by simpa using c17)⟩
   ·have c17:elt (eg l' F) (eg l' (par F)):=by simpa using c17
    refine bV kh2<|aG fun kh4=>aB 3 rfl ?_
    refine f_S (i8 (dJ bT bA N (.slice A l'.length cap) m' at') _ (inv_Swap (some ⟨bT,0,none⟩)) rfl rfl (by rw [J];unfold dJ;exact aM (aM (aM Sub.refl))) (fun w_ ac=>Swap_spec bT bA N A cap m' at' l' (par F) F w_ O Y X aA aA ac.owns) ?_);rintro _ _ ⟨rfl,ag,rfl,ad⟩
    unfold dJ
    rw [J];dsimp only [aK,aJ];refine aD kh4<|aI<|aB 2 rfl<|aZ<|dF ?_
    refine cS (a6 (par F,sw l' (par F) F,ag,swAt l' at' (par F) F) (by first|omega|(dsimp only;omega)|(simp;omega)) ⟨by rw [sw_len];exact ad,Y.sw aA aA,by rw [swAt_len];exact X,up_step aa Z ae aA c17,aA,(sw_perm aA aA).trans U,by rw [sw_drop aA ae];exact ab⟩ ?_ ?_ ?_)
    ·exact aF
    ·exact aF
    ·exact aC
def DnG (n F:Nat) (b:Bool) (l' :List Ent):Prop:=(b=true→nW l' n)∧(b=false→UpOk l' n F)
theorem dn_kids {l:List Ent} {n i j:Nat} (h:ele (eg l i) (eg l j)) (hb:∀ c,0<c→c<n→par c=i→ele (eg l j) (eg l c)):∀ c,0<c→c<n→par c=i→ele (eg l i) (eg l c):=fun c F J hc=>lJ h (hb c F J hc)
theorem kid_one {l:List Ent} {n i:Nat} (h1:2*i+1<n) (h2:¬ 2*i+2<n):∀ c,0<c→c<n→par c=i→ele (eg l (2*i+1)) (eg l c):=fun c F J hc=>by
 rcases pars F hc with rfl|rfl
 ·exact pU _
 ·omega
theorem kid_right {l:List Ent} {n i:Nat} (h:elt (eg l (2*i+2)) (eg l (2*i+1))):∀ c,0<c→c<n→par c=i→ele (eg l (2*i+2)) (eg l c):=fun c F J hc=>by
 rcases pars F hc with rfl|rfl
 ·exact ele_of h
 ·exact pU _
theorem kid_left {l:List Ent} {n i:Nat} (h:¬ elt (eg l (2*i+2)) (eg l (2*i+1))):∀ c,0<c→c<n→par c=i→ele (eg l (2*i+1)) (eg l c):=fun c F J hc=>by
 rcases pars F hc with rfl|rfl
 ·exact pU _
 ·exact h
theorem par_left (i:Nat):par (2*i+1)=i:=by unfold par;omega
theorem par_right (i:Nat):par (2*i+2)=i:=by unfold par;omega
theorem own_cap {E sz len F cap:Nat} {A:Option Addr} {cs:List Value} {m:Seg} (h:Own E sz (.slice A len cap) F cs m):len≤cap∧cap≤9223372036854775807:=by
 rcases h.2 with ⟨e,rfl,_⟩|⟨b,c,sp,e,_,h1,h2,_⟩
 ·obtain ⟨_,rfl,rfl⟩:=Value.slice.inj e;omega
 ·obtain ⟨_,rfl,rfl⟩:=Value.slice.inj e;omega
theorem take_last {l:List Ent} {n:Nat} (h:l.length=n+1):l=l.take n++[eg l n]:=by
 rw [i5 aA,← List.take_succ_eq_append_getElem aA,List.take_of_length_le aA]
theorem eg_drop {l l' :List Ent} {n:Nat} (h:l'.drop n=l.drop n):eg l' n=eg l n:=by
 have e:∀ l:List Ent,eg l n=(l.drop n).getD 0 ⟨0,0⟩:=fun l=>by simp [eg,List.getD_eq_getElem?_getD]
 rw [e,e,h]
theorem dn_full {l:List Ent} {n:Nat} {b:Bool} (h:DnG n 0 b l):nW l n:=by
 cases b
 ·exact up_zero (h.2 rfl)
 ·exact h.1 rfl
def Cut (bT bA N n:Nat) (A:Option Addr) (cap:Nat) (l:List Ent) (e:Ent) (own:List Seg):Prop:=
 ∃ l2 m' at',own=dJ bT bA N (.slice A l2.length cap) m' at'∧Own 193 2 (.slice A l2.length cap) l2.length (l2.flatMap eD) m'∧l2.length=n∧HOk l2 at'∧at'.length=N∧nW l2 l2.length∧(e::l2).Perm l
theorem flat_take {l:List Ent} {n:Nat}:(l.flatMap eD).take (n*2)=(l.take n).flatMap eD:=by
 induction l generalizing n with
 |nil=>simp
 |cons x l ih=>
  cases n with
  |zero=>simp
  |succ n=>
   rw [List.flatMap_cons,List.take_succ_cons,List.flatMap_cons,List.take_append,List.take_of_length_le (by rw [eB];omega),eB,show (n+1)*2 - 2=n*2 from by omega,ih]
theorem cut_mk {bT bA N n cap:Nat} {A:Option Addr} {l l' :List Ent} {e:Ent} {m' :Seg} {at' :List Int} (ho:Own 193 2 (.slice A l'.length cap) l'.length (l'.flatMap eD) m') (hl:l'.length=n+1) (J:HOk l' at') (U:at'.length=N) (O:nW l' n) (hp:l'.Perm l) (he:eg l' n=e):
  Cut bT bA N n A cap l e (dJ bT bA N (.slice A n cap) m' (at'.set (eg l' n).id (-1))):=by
 have h2:(l'.take n).length=n:=by simp;omega
 have F:=ho.head (n:=n) aA
 rw [flat_take] at F
 exact ⟨l'.take n,m',_,by rw [h2],by rw [h2];exact F,h2,J.pop hl,by simpa using U,by rw [h2];exact full_take O,by
  refine List.Perm.trans ?_ hp
  conv=>rhs;rw [take_last hl]
  rw [he]
  exact (List.perm_append_comm (l₁:=[e]))⟩
theorem dn_end {l:List Ent} {n F i:Nat} (h:∀ c,0<c→c<n→(c≠i∨i≠F)→ele (eg l (par c)) (eg l c)) (hd:DnOk l n F i) (J:F≤i):DnG n F (decide ((F:Int)<(i:Int))) l:=by
 refine ⟨fun hb=>dn_moved h (by have:=of_decide_eq_true hb;omega),fun hb=>?_⟩;have:i=F:=by have:=of_decide_eq_false hb;omega
 subst this;exact dn_stays h hd
theorem down_spec (bT bA N:Nat) (A:Option Addr) (cap:Nat) (m:Seg) (at_:List Int) (l:List Ent) (n O:Nat) (w:World) (ho:Own 193 2 (.slice A l.length cap) l.length (l.flatMap eD) m) (hH:HOk l at_) (hN:at_.length=N) (hD:DnOk l n O O) (hi:O≤l.length) (hn:n≤l.length) (hl:l.length≤500000) (hw:Owns w (dJ bT bA N (.slice A l.length cap) m at_)):Meets Tryz.prog 150 [.iface 187 (.pointer (some ⟨bT,0,none⟩)),.int .i64 (O:Int),.int .i64 (n:Int)] w (dJ bT bA N (.slice A l.length cap) m at_) (fun u own' =>∃ b:Bool,u= .bool b∧Left bT bA N (.slice A l.length cap) l n own' (DnG n O b)):=by
 refine bE Tryz.func150 rfl Tryz.ntmps150 rfl hw<|aG fun kh1=>aB 1 rfl<|aD kh1<|aG fun kh2=>aB 2 rfl<|aD kh2<|aS fun kh3=>aR ?_
 refine dA (α:=Nat×List Ent×Seg×List Int) [0,1,2] (fun ⟨i,l',m',at'⟩=>[(7,.int .i64 (i:Int))]) (fun ⟨i,l',m',at'⟩=>[[(bT,blk [.slice A l.length cap,.slice (some ⟨bA,0,none⟩) N N,.func (.func 109) #[] #[]] 191)],m',[(bA,blk (bF at') 3)]]) (fun ⟨i,l',m',at'⟩=>Own 193 2 (.slice A l'.length cap) l'.length (l'.flatMap eD) m'∧HOk l' at'∧at'.length=N∧DnOk l' n O i∧O≤i∧i≤l.length∧l'.Perm l∧l'.drop n=l.drop n) (fun ⟨i,l',m',at'⟩=>l.length - i) (O,l,m,at_) ?_ ?_ ?_ ?_
 ·exact aF
 ·exact aC
 ·exact ⟨ho,hH,hN,hD,Nat.le_refl _,hi,List.Perm.refl _,rfl⟩
 ·rintro ⟨i,l',m',at'⟩ ⟨ho',hH',hN',hD',X,ag,hp',hd'⟩;have hll:=hp'.length_eq
  refine aR<|aG fun kh4=>aB 1 rfl<|f_Q (o_mul rfl rfl _ (d7 aA))<|f_Q (lA rfl rfl _ (wrap_two aA))<|aB 1 rfl<|aD kh4<|aS fun kh5=>aG fun kh6=>aB 4 rfl<|d8 18 rfl (fun g18=>?_) (fun g18=>?_)
  ·refine aB 3 rfl<|aD kh6<|fI rfl<|cN<|cO<|f_bo rfl<|cO<|eC<|bO kh3<|aG fun kh7=>?_
   refine aB 4 rfl<|aD kh7<|aY ?_
   exact bJ (dJ bT bA N (.slice A l.length cap) m' at') Tryz.results150 rfl (by repeat (first|exact aP|refine aM ?_|refine cE rfl ?_)) ⟨_,rfl,l',m',at',rfl,by rw [hll] at ho';rw [hll];exact ho',hH',hN',hp',hd',dn_end (dn_stop hD' fun c c0 cn hc=>by have:=pars c0 hc;omega) hD' X⟩
  ·refine aB 3 rfl<|aD kh6<|dX rfl aA<|bV kh5<|aG fun kh8=>aB 2 rfl<|aD kh8 ?_
   refine qZ (α:=Nat) [0,1,2,7] (fun F=>[(9,.int .i64 (F:Int))]) (fun F=>[[(bT,blk [.slice A l.length cap,.slice (some ⟨bA,0,none⟩) N N,.func (.func 109) #[] #[]] 191)],m',[(bA,blk (bF at') 3)]]) (fun F=>0<F∧par F=i∧F<n∧∀ c,0<c→c<n→par c=i→ele (eg l' F) (eg l' c)) ?_ ?_
   ·intro K9 U;refine aG fun kh10=>aB 1 rfl<|f_Q (lA rfl rfl _ (wrap_two2 aA))<|aB 1 rfl<|aD kh10<|aG fun kh11=>aB 4 rfl<|d8 28 rfl (fun g28=>?_) (fun g28=>?_)
    ·refine aB 3 rfl ?_;refine jY rfl rfl rfl rfl rfl (i8 (dJ bT bA N (.slice A l'.length cap) m' at') _ (inv_Less (some ⟨bT,0,none⟩)) rfl rfl (by rw [hll];unfold dJ;exact aM (aM (aM Sub.refl))) (fun w_ J=>Less_spec bT bA N A cap m' at' l' (2*i+2) (2*i+1) w_ ho' aA aA J.owns) ?_);rintro _ _ ⟨rfl,rfl⟩
     unfold dJ
     rw [hll];dsimp only [aK,aJ];refine aB 1 rfl<|aD kh11<|aX rfl (fun c33=>?_) (fun c33=>?_)
     ·refine aI<|aB 2 rfl<|aZ<|cS (U _ _ (2*i+2) ⟨aA,par_right i,aA,kid_right c33⟩ ?_ ?_ ?_)
      ·exact aF
      ·exact aF
      ·exact aC
     ·refine dY<|cS (U _ _ (2*i+1) ⟨aA,par_left i,aA,kid_left c33⟩ ?_ ?_ ?_)
      ·exact aF
      ·exact aF
      ·exact aC
    ·refine aB 5 rfl<|aD kh11<|iJ rfl<|dY<|cS (U _ _ (2*i+1) ⟨aA,par_left i,aA,kid_one aA aA⟩ ?_ ?_ ?_)
     ·exact aF
     ·exact aF
     ·exact aC
   ·rintro F ⟨ad,Z,Y,aa⟩;have ah:i<F:=by unfold par at Z;omega
    refine aS fun ac=>aG fun kh13=>aB 3 rfl ?_;refine f_S (i8 (dJ bT bA N (.slice A l'.length cap) m' at') _ (inv_Less (some ⟨bT,0,none⟩)) rfl rfl (by rw [hll];unfold dJ;exact aM (aM (aM Sub.refl))) (fun w_ J=>Less_spec bT bA N A cap m' at' l' (F) (i) w_ ho' aA aA J.owns) ?_);rintro _ _ ⟨rfl,rfl⟩
    unfold dJ
    rw [hll];dsimp only [aK,aJ];refine aB 1 rfl<|aD kh13<|eO rfl (fun c39=>?_) (fun c39=>?_)
    ·refine cN<|cO<|f_bo rfl<|cO<|eC<|bO kh3<|aG fun kh14=>aB 4 rfl<|aD kh14<|aY ?_
     exact bJ (dJ bT bA N (.slice A l.length cap) m' at') Tryz.results150 rfl (by repeat (first|exact aP|refine aM ?_|refine cE rfl ?_)) ⟨_,rfl,l',m',at',rfl,by rw [hll] at ho';rw [hll];exact ho',hH',hN',hp',hd',dn_end (dn_stop hD' (dn_kids (show ¬ elt (eg l' F) (eg l' i) from by simpa using c39) aa)) hD' X⟩
    ·have c39:elt (eg l' F) (eg l' i):=by simpa using c39
     refine bV ac<|aG fun kh15=>aB 3 rfl ?_
     refine f_S (i8 (dJ bT bA N (.slice A l'.length cap) m' at') _ (inv_Swap (some ⟨bT,0,none⟩)) rfl rfl (by rw [hll];unfold dJ;exact aM (aM (aM Sub.refl))) (fun w_ J=>Swap_spec bT bA N A cap m' at' l' (i) (F) w_ ho' hH' hN' aA aA J.owns) ?_);rintro _ _ ⟨rfl,ae,rfl,ab⟩
     unfold dJ
     rw [hll];dsimp only [aK,aJ];refine aD kh15<|aI<|aB 2 rfl<|aZ<|dF ?_
     refine cS (a6 (F,sw l' i F,ae,swAt l' at' i F) (by dsimp only;omega) ⟨by rw [sw_len];exact ab,hH'.sw aA aA,by rw [swAt_len];exact hN',dn_step hD' X ad Z Y aA c39 aa,aA,aA,(sw_perm aA aA).trans hp',by rw [sw_drop aA Y];exact hd'⟩ ?_ ?_ ?_)
     ·exact aF
     ·exact aF
     ·exact aC
theorem Fix_spec (bT bA N:Nat) (A:Option Addr) (cap:Nat) (m:Seg) (at_:List Int) (l:List Ent) (i:Nat) (w:World) (ho:Own 193 2 (.slice A l.length cap) l.length (l.flatMap eD) m) (hH:HOk l at_) (hN:at_.length=N) (hD:DnOk l l.length i i) (hi:i<l.length) (hl:l.length≤500000) (hw:Owns w (dJ bT bA N (.slice A l.length cap) m at_)):Meets Tryz.prog 112 [.iface 187 (.pointer (some ⟨bT,0,none⟩)),.int .i64 (i:Int)] w (dJ bT bA N (.slice A l.length cap) m at_) (fun u own' =>Left bT bA N (.slice A l.length cap) l l.length own' (fun l' =>nW l' l.length)):=by
 refine bE Tryz.func112 rfl Tryz.ntmps112 rfl hw<|aG fun kh1=>aB 3 rfl ?_
 refine f_S (i8 (dJ bT bA N (.slice A l.length cap) m at_) _ (inv_Len (some ⟨bT,0,none⟩)) rfl rfl (by unfold dJ;exact aM (aM (aM Sub.refl))) (fun Y F=>TLen_spec bT bA N A cap m at_ l Y F.owns) ?_);rintro _ _ ⟨rfl,rfl⟩
 unfold dJ
 dsimp only [aK,aJ];refine f_S (d4 (dJ bT bA N (.slice A l.length cap) m at_) _ Tryz.call150 rfl (by unfold dJ;exact aM (aM (aM Sub.refl))) (fun Y F=>down_spec bT bA N A cap m at_ l l.length i Y ho hH hN hD aA (Nat.le_refl _) hl F.owns) ?_);rintro _ _ ⟨b,rfl,l',m',at',rfl,U,ab,X,O,Z,hG⟩
 unfold dJ
 have J:=O.length_eq
 dsimp only [aK,aJ];refine aB 1 rfl<|aD kh1<|eO rfl (fun c9=>?_) (fun c9=>?_)
 ·refine aI<|aB 2 rfl ?_
  refine f_S (d4 (dJ bT bA N (.slice A l'.length cap) m' at') _ Tryz.call149 rfl (by rw [J];unfold dJ;exact aM (aM (aM Sub.refl))) (fun Y F=>up_spec bT bA N A cap m' at' l' l.length i Y (by rw [← J] at U;exact U) ab X (hG.2 (by simpa using c9)) aA aA aA F.owns) ?_);rintro _ _ ⟨rfl,l3,m3,aa,rfl,ac,ai,ad,ae,ah,ag⟩
  unfold dJ
  rw [J];dsimp only [aK,aJ];refine aZ ?_;exact iP (dJ bT bA N (.slice A l.length cap) m3 aa) Tryz.results112 (by repeat (first|exact aP|refine aM ?_|refine cE rfl ?_)) ⟨l3,m3,aa,rfl,by rw [← J];exact ac,ai,ad,ae.trans O,ah.trans Z,ag⟩
 ·refine dY ?_;exact iP (dJ bT bA N (.slice A l.length cap) m' at') Tryz.results112 (by repeat (first|exact aP|refine aM ?_|refine cE rfl ?_)) ⟨l',m',at',rfl,U,ab,X,O,Z,hG.1 (by simpa using c9)⟩
theorem Push_spec (bT bA N:Nat) (A:Option Addr) (cap:Nat) (m:Seg) (at_:List Int) (l:List Ent) (e:Ent) (w:World) (ho:Own 193 2 (.slice A l.length cap) l.length (l.flatMap eD) m) (hH:HOk l at_) (hN:at_.length=N) (hF:nW l l.length) (he:at_[e.id]? =some (-1)) (hl:l.length≤100000) (hw:Owns w (dJ bT bA N (.slice A l.length cap) m at_)):Meets Tryz.prog 111 [.iface 187 (.pointer (some ⟨bT,0,none⟩)),.iface 193 (.agg (eD e).toArray)] w (dJ bT bA N (.slice A l.length cap) m at_) (fun u own' =>∃ A' cap',Left bT bA N (.slice A' (l++[e]).length cap') (l++[e]) (l++[e]).length own' (fun l' =>nW l' (l++[e]).length)):=by
 have hlt:e.id<N:=by rw [← hN];exact (List.getElem?_eq_some_iff.1 he).1
 have aa:(l++[e]).length=l.length+1:=aN
 refine bE Tryz.func111 rfl Tryz.ntmps111 rfl hw<|aG fun kh1=>aB 2 rfl ?_
 refine f_S (i8 (dJ bT bA N (.slice A l.length cap) m at_) _ (inv_Push (some ⟨bT,0,none⟩)) rfl rfl (by unfold dJ;exact aM (aM (aM Sub.refl))) (fun O F=>TPush_spec bT bA N A cap m at_ l e O ho hN hlt aA F.owns) ?_);rintro _ _ ⟨rfl,A',cap',m2,rfl,ab⟩
 unfold dJ
 dsimp only [aK,aJ];refine aD kh1<|aI<|aB 2 rfl ?_
 refine f_S (i8 (dJ bT bA N (.slice A' (l++[e]).length cap') m2 (at_.set e.id (l.length:Int))) _ (inv_Len (some ⟨bT,0,none⟩)) rfl rfl (by unfold dJ;exact aM (aM (aM Sub.refl))) (fun O F=>TLen_spec bT bA N A' cap' m2 _ (l++[e]) O F.owns) ?_);rintro _ _ ⟨rfl,rfl⟩
 unfold dJ
 dsimp only [aK,aJ];refine f_Q (kM rfl rfl _ (show IntKind.i64.wrap (((l++[e]).length:Int) - 1)=(l.length:Int) from by rw [d7 aA];omega)) ?_;refine f_S (d4 (dJ bT bA N (.slice A' (l++[e]).length cap') m2 (at_.set e.id (l.length:Int))) _ Tryz.call149 rfl (by unfold dJ;exact aM (aM (aM Sub.refl))) (fun O F=>up_spec bT bA N A' cap' m2 _ (l++[e]) (l++[e]).length l.length O ab (hH.push he) (by simpa using hN) (by rw [aa];exact up_push hF) aA (Nat.le_refl _) aA F.owns) ?_);rintro _ _ ⟨rfl,l3,m3,J,rfl,U,ad,Y,Z,ac,X⟩
 unfold dJ
 dsimp only [aK,aJ];refine aZ ?_;exact iP (dJ bT bA N (.slice A' (l++[e]).length cap') m3 J) Tryz.results111 (by repeat (first|exact aP|refine aM ?_|refine cE rfl ?_)) ⟨A',cap',l3,m3,J,rfl,U,ad,Y,Z,ac,X⟩
theorem Pop_spec (bT bA N:Nat) (A:Option Addr) (cap:Nat) (m:Seg) (at_:List Int) (l:List Ent) (n:Nat) (w:World) (ho:Own 193 2 (.slice A l.length cap) l.length (l.flatMap eD) m) (hH:HOk l at_) (hN:at_.length=N) (hF:nW l l.length) (hn:l.length=n+1) (hl:l.length≤100000) (hw:Owns w (dJ bT bA N (.slice A l.length cap) m at_)):Meets Tryz.prog 114 [.iface 187 (.pointer (some ⟨bT,0,none⟩))] w (dJ bT bA N (.slice A l.length cap) m at_) (fun u own' =>Cut bT bA N n A cap l (eg l 0) own'):=by
 have U:=sw_len l 0 n
 refine bE Tryz.func114 rfl Tryz.ntmps114 rfl hw<|aG fun kh1=>aB 1 rfl<|aD kh1<|aG fun kh2=>aB 1 rfl ?_
 refine f_S (i8 (dJ bT bA N (.slice A l.length cap) m at_) _ (inv_Len (some ⟨bT,0,none⟩)) rfl rfl (by unfold dJ;exact aM (aM (aM Sub.refl))) (fun X F=>TLen_spec bT bA N A cap m at_ l X F.owns) ?_);rintro _ _ ⟨rfl,rfl⟩
 unfold dJ
 dsimp only [aK,aJ];refine f_Q (kM rfl rfl _ (show IntKind.i64.wrap ((l.length:Int) - 1)=(n:Int) from by rw [d7 aA];omega)) ?_;refine aB 1 rfl<|aD kh2<|aG fun kh3=>aB 2 rfl ?_
 refine f_S (i8 (dJ bT bA N (.slice A l.length cap) m at_) _ (inv_Swap (some ⟨bT,0,none⟩)) rfl rfl (by unfold dJ;exact aM (aM (aM Sub.refl))) (fun X F=>Swap_spec bT bA N A cap m at_ l 0 n X ho hH hN aA aA F.owns) ?_);rintro _ _ ⟨rfl,m2,rfl,ab⟩
 unfold dJ
 dsimp only [aK,aJ];refine aD kh3<|aG fun kh4=>aB 2 rfl ?_
 refine f_S (d4 (dJ bT bA N (.slice A (sw l 0 n).length cap) m2 (swAt l at_ 0 n)) _ Tryz.call150 rfl (by rw [U];unfold dJ;exact aM (aM (aM Sub.refl))) (fun X F=>down_spec bT bA N A cap m2 _ (sw l 0 n) n 0 X (by rw [U];exact ab) (hH.sw aA aA) (by rw [swAt_len];exact hN) (dn_swap hF hn aA) aA aA aA F.owns) ?_);rintro _ _ ⟨b,rfl,l',m',at',rfl,O,aa,Z,Y,ac,hG⟩
 unfold dJ
 have J:=Y.length_eq
 rw [U] at J O ⊢;dsimp only [aK,aJ];refine aD kh4<|aG fun kh5=>aB 1 rfl ?_
 refine f_S (i8 (dJ bT bA N (.slice A l'.length cap) m' at') _ (inv_Pop (some ⟨bT,0,none⟩)) rfl rfl (by rw [J];unfold dJ;exact aM (aM (aM Sub.refl))) (fun X F=>TPop_spec bT bA N A cap m' at' l' n X (by rw [J];rwa [J] at O) aa Z aA (by rw [J];exact own_cap O) F.owns) ?_);rintro ad _ rfl
 unfold dJ
 dsimp only [aK,aJ];refine aB 1 rfl<|aD kh5<|aY ?_
 exact bJ (dJ bT bA N (.slice A n cap) m' (at'.set (eg l' n).id (-1))) Tryz.results114 rfl (by repeat (first|exact aP|refine aM ?_|refine cE rfl ?_)) (cut_mk (by rw [J];rwa [J] at O) aA aa Z (dn_full hG) (Y.trans (sw_perm aA aA)) (by rw [eg_drop ac,eg_sw aA aA,if_pos rfl]))
end Go.Proofs.YthpkelafioikaaaGreat
