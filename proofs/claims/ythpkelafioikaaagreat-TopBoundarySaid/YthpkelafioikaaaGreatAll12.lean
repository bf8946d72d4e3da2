import Derived.Test.YthpkelafioikaaaGreatFlyRun
import Derived.Test.YthpkelafioikaaaGreatAll11
import Derived.Test.YthpkelafioikaaaGreatAll3
import Derived.Test.YthpkelafioikaaaGreatAll1
import Derived.Test.YthpkelafioikaaaGreatAll10
import Derived.Test.YthpkelafioikaaaGreatAll2
import Derived.Test.YthpkelafioikaaaGreatFlyT
import Derived.Test.YthpkelafioikaaaGreatAll8
import Derived.OrdersIn
import Derived.Test.YthpkelafioikaaaGreatAll9
import Derived.Test.YthpkelafioikaaaGreatFlyR
namespace Go.Proofs.YthpkelafioikaaaGreat
open Go Go.RowKit Fly
set_option maxRecDepth 100000
set_option maxHeartbeats 4000000
set_option linter.all false
theorem roMem {S:Nat→Prop} {w0 w:World} {segs:List Seg} {b:Nat} {cs sp:List Value} {T:TypeId} (hm:(b,blk (cs++sp) T)∈segs.flatten) (hp:Hp S w0 segs.flatten w):Ro (Fr w []) w (some ⟨b,0,none⟩) cs:=fun _=>by
 have hb:=hp.own b _ hm
 refine ⟨b,0,rfl,⟨hp.key_lt hm,aO⟩,fun j v hj=>?_⟩;have:(cs++sp)[j]? =some v:=d7 hj
 simp [World.cell?,hb,this]
theorem roOwnM {S:Nat→Prop} {w0 w:World} {segs:List Seg} {E len J c:Nat} {A:Option Addr} {cs:List Value} {m:Seg} (ho:Own E 1 (.slice A J c) len cs m) (hm:∀ x∈m,x∈segs.flatten) (hp:Hp S w0 segs.flatten w):Ro (Fr w []) w A cs:=by
 intro F
 have hl:0<len:=by
  rcases Nat.eq_zero_or_pos len with h|h
  ·subst h;have:=ho.1;simp at this;exact absurd this F
  ·exact h
 obtain ⟨b,sp,rfl,rfl⟩:=ho.at_ hl
 exact roMem (sp:=sp) (T:=E) (hm _ aO) hp F
theorem LRep.sees {U:Nat→Prop} {w0 w:World} {segs out:List Seg} {n:Nat} {rows:Nat→List Int} {L S:List Int} {bs:Nat} {m:Seg} (h:LRep n rows L S bs m) (hp:Hp U w0 segs.flatten w) [pk:Pick segs m out]:∃ Al cl bo bz vs,LSee n rows L S bs w Al cl bo bz vs:=by
 obtain ⟨Al,cl,ml,bo,vs,ms,bz,hm,O,J⟩:=h
 have F:∀ x∈(pR bs Al cl L ml bo n vs ms.flatten bz S).flatten,x∈segs.flatten:=fun x hx=>pk.perm.symm.subset (List.mem_append_left _ (hm.symm.subset hx))
 refine ⟨Al,cl,bo,bz,vs,?_,?_,?_,J.lv,fun v hv=>?_,?_⟩
 ·exact roMem (sp:=[]) (T:=234) (F _ aO) hp
 ·exact roOwnM O (fun x hx=>F x (by simp [hx])) hp
 ·exact roMem (sp:=[]) (T:=25) (F _ aO) hp
 ·obtain ⟨A,c,h1,h2⟩:=J.own v hv
  refine ⟨A,_,h1,roOwnM h2 (fun x hx=>F x ?_) hp⟩;have:x∈ms.flatten:=List.mem_flatten.2 ⟨_,List.getElem_mem _,hx⟩
  simp [this]
 ·exact roMem (sp:=[]) (T:=3) (F _ aO) hp
theorem qA {n:Nat} {L:List Int} (F:eG (n:Int) L=true) (hn:1≤n):L.length=n∧(∀ x∈L,0≤x∧x<((d3 L).length:Int)∧x<(n:Int))∧(d3 L).length≤n∧1≤(d3 L).length:=by
 unfold eG at F
 simp only [Bool.and_eq_true,decide_eq_true_eq] at F;have U:L.length=n:=aA
 have O:0<L.length:=aA
 have J:=rgo_pos F.1
 have X:=rgo_lt F.1
 have Z:fC L≤(n:Int) - 1:=mU O fun x hx=>by have:=X x hx;omega
 have Y:0≤fC L:=Int.le_trans (J L[0] (List.getElem_mem O)) (iL (List.getElem_mem O))
 have e:(d3 L).length=(fC L+1).toNat:=gO _ _
 refine ⟨U,fun x hx=>?_,aA,aA⟩;have:=J x hx
 have:=iL hx
 omega
theorem nbrs_rng {n:Nat} {l:List Arc} (hg:(cL (n:Int) l).2=0) (v:Int):(dS v l).length≤8192∧∀ u∈dS v l,0≤u∧u<(n:Int):=by
 obtain ⟨_,_,hlen,J⟩:=cF hg
 refine ⟨?_,fun u O=>?_⟩
 ·unfold dS
  refine Nat.le_trans (lN _) ?_;rw [fP];exact Nat.le_trans (qL v l) hlen
 ·obtain ⟨x,hx,F⟩:=nbrs_mem.1 O
  have:=raw_good J x hx
  unfold nbr at F
  split at F
  ·simp at F
  ·split at F
   ·simp at F;omega
   ·split at F
    ·simp at F;omega
    ·simp at F
theorem szs_rng {M:Nat} {L:List Int} (h:L.length≤1024):∀ x∈szs M L,0≤x∧x≤1024:=fun x hx=>by
 obtain ⟨j,_,rfl⟩:=List.mem_map.1 hx
 have:=cnt_le L j
 omega
theorem lok_begin {n:Nat} {l:List Arc} {L:List Int} (hg:(cL (n:Int) l).2=0) (F:eG (n:Int) L=true):LOk n (fun v=>dS (v:Int) l) L (d3 L):=by
 obtain ⟨U,O,hlen,J⟩:=cF hg
 obtain ⟨h1,h2,h3,_⟩:=qA F aA
 exact ⟨aA,h1,fun x hx=>⟨(h2 x hx).1,(h2 x hx).2.1⟩,aA,fun v _=>Nat.le_trans (nbrs_rng hg v).1 (by decide),fun v _=>(nbrs_rng hg v).2,szs_rng aA⟩
theorem lok_do {n:Nat} {rows:Nat→List Int} {L S:List Int} (h:LOk n rows L S) (v:Nat) (j:Int):LOk n rows (tdy (L.set v j)) (szs (sns (L.set v j)).length (tdy (L.set v j))):=by
 have hl:(L.set v j).length=n:=by rw [List.length_set];exact h.len
 have hs:=sns_len (L:=L.set v j) (k:=(L.set v j).length) (Nat.le_refl _)
 rw [List.take_length] at hs;have:=h.n1
 exact ⟨h.n1,by rw [gI];exact hl,fun x hx=>by rw [gO];exact tdy_rng x hx,by rw [gO];omega,h.rlen,h.rok,szs_rng (by rw [gI];omega)⟩
theorem lcount_ok {N:Int} {l:List Arc} {L:List Int} (h:(fQ N l L).2=0):(cL N l).2=0∧eG N L=true:=by
 unfold fQ at h
 by_cases h1:(cL N l).2≠0
 ·rw [if_pos h1] at h;exact absurd h h1
 ·by_cases h2:eG N L=false
  ·rw [if_neg h1,if_pos h2] at h;simp at h
  ·exact ⟨aA,by simpa using h2⟩
def iC (N:Int) (l:List Arc) (L:List Int) (bd:Int):Int:=
 if (fQ N l L).2≠0 then (fQ N l L).2 else if bd<1∨1024<bd then 1 else if bd<fC (d3 L) then 90 else 0
theorem ready_spec (N:Int) (A B:Option Addr) (l:List Arc) (cap:Nat) (L:List Int) (cb:Nat) (bd:Int) (w:World) (hr:Ro (Fr w []) w A (l.flatMap cH)) (hl:l.length≤9223372036854775807) (hN:I64 N) (hok:∀ x∈l,eN x) (hL:Ro (Fr w []) w B (a8 L)) (hm:L.length≤9223372036854775807):
    Meets Tryz.prog 139 [.agg #[.int .i64 N,.slice A l.length cap],.slice B L.length cb,.int .i64 bd] w []
      (fun u own' =>if iC N l L bd=0 then ∃ bs m,u= .tuple #[.pointer (some ⟨bs,0,none⟩),.int .i64 0]∧own' =[m]∧LRep N.toNat (fun v=>dS (v:Int) l) L (d3 L) bs m else u= .tuple #[.pointer none,.int .i64 (iC N l L bd)]∧own' =[]):=by
 refine bG Tryz.func139 rfl Tryz.ntmps139 rfl Owns.nil<|aG fun kh1=>f_S (cZ rfl rfl fun b3=>?_)
 refine aB 2 rfl<|aD kh1<|aV fun kh2=>aG fun kh3=>f_Q (aQ (vs:=[_,_]) Tryz.isAgg24 Tryz.sizeOf24 rfl rfl ⟨(rdA rfl),(rdA rfl),trivial⟩)<|aB 1 rfl ?_
 refine f_S (aW Tryz.call115 rfl (fun U F=>Count_spec N A B l cap L cb U (hr.up0 F) hl hN hok (hL.up0 F) hm) ?_);rintro _ _ ⟨rfl,rfl⟩;dsimp only [aK,aJ];refine aB 5 rfl<|aD kh3<|aG fun kh4=>aB 2 rfl<|aD kh4<|aX rfl (fun c18=>?_) (fun c18=>?_)
 ·refine aG fun ac=>aB 3 rfl<|aD ac<|aZ<|dA ?_
  have e:iC N l L bd=(fQ N l L).2:=if_pos c18
  exact dB [] Tryz.results139 rfl rfl aP (by rw [if_neg (by rw [e];exact c18),e];exact ⟨rfl,rfl⟩)
 ·have ab:(fQ N l L).2=0:=by simpa using c18
  obtain ⟨hg,J⟩:=lcount_ok ab
  obtain ⟨n,rfl⟩:∃ n:Nat,N=(n:Int):=⟨N.toNat,by have:=cF hg;omega⟩
  have hO:=lok_begin hg J
  have aa:=hO.n1
  obtain ⟨ae,_,ag,ad⟩:=qA J aa.1
  refine bZ kh2<|aV fun kh6=>aG fun kh7=>aB 3 rfl<|eA 22 rfl (fun g22=>?_) (fun g22=>?_)
  ·refine aB 3 rfl<|aD kh7<|eW rfl<|aG fun kh8=>aB 2 rfl<|aD kh8<|aZ<|dA ?_
   have e:iC (n:Int) l L bd=1:=by rw [iC,if_neg c18,if_pos (.inl g22)]
   exact dB [] Tryz.results139 rfl rfl aP (by rw [if_neg (by rw [e];decide),e];exact ⟨rfl,rfl⟩)
  ·refine aB 3 rfl<|aD kh7<|aX rfl (fun c25=>?_) (fun c25=>?_)
   ·refine aG fun Z=>aB 2 rfl<|aD Z<|aZ<|dA ?_
    have e:iC (n:Int) l L bd=1:=by rw [iC,if_neg c18,if_pos (.inr aA)]
    exact dB [] Tryz.results139 rfl rfl aP (by rw [if_neg (by rw [e];decide),e];exact ⟨rfl,rfl⟩)
   ·refine bZ kh6<|aG fun kh10=>f_Q (aQ (vs:=[_,_]) Tryz.isAgg24 Tryz.sizeOf24 rfl rfl ⟨(rdA rfl),(rdA rfl),trivial⟩)<|aB 1 rfl ?_
    refine f_S (aW Tryz.call171 rfl (fun U F=>lbegin_spec n A B l cap L cb U (hr.up0 F) hok hg (hL.up0 F) J) ?_);rintro _ _ ⟨bs,sm,rfl,rfl,hS⟩;dsimp only [aK,aJ];refine aB 1 rfl<|aD kh10<|aV fun kh11=>aV fun kh12=>?_
    have ah:=hS
    obtain ⟨Al,cl,ml,bo,vs,ms,bz,hsm,Y,X⟩:=hS
    refine eP (Sub.opened hsm) ?_
    try dsimp only [pR,List.cons_append,List.nil_append]
    refine aI<|aB 1 rfl<|f_Q (dD rfl)<|cN fa234_2 rfl<|c7 Tryz.isAgg25 rfl (rdA rfl) ?_
    refine f_S (aW Tryz.call87 rfl (fun U F=>nZ _ (d3 L) _ U (roMem (sp:=[]) (T:=3) (b:=bz) aO F) aA aA) ?_);rintro _ _ ⟨rfl,rfl⟩;dsimp only [aK,aJ];refine aB 2 rfl<|aD kh12<|aX rfl (fun c35=>?_) (fun c35=>?_)
    ·refine aG fun O=>aB 2 rfl<|aD O<|aZ<|dA ?_
     have e:iC (n:Int) l L bd=90:=by rw [iC,if_neg c18,if_neg aA,if_pos aA]
     exact dB [] Tryz.results139 rfl rfl aP (by rw [if_neg (by rw [e];decide),e];exact ⟨rfl,rfl⟩)
    ·refine bZ kh11<|aG fun kh14=>aB 3 rfl<|aD kh14<|aZ ?_
     have e:iC (n:Int) l L bd=0:=by rw [iC,if_neg c18,if_neg aA,if_neg aA]
     exact dB [(pR bs Al cl L ml bo n vs ms.flatten bz (d3 L)).flatten] Tryz.results139 rfl rfl (Sub.flat (by repeat (first|exact aP|refine aL ?_|refine bV rfl ?_))) (by rw [if_pos e];exact ⟨bs,_,rfl,rfl,by rw [Int.toNat_natCast];exact ⟨Al,cl,ml,bo,vs,ms,bz,List.Perm.refl _,Y,X⟩⟩)
theorem Sub.opn {m:Seg} {segs F out:List Seg} [p:Pick segs m F] (h:m.Perm out.flatten):Fly.Sub segs out:=by
 refine ⟨F.flatten,p.perm.trans (h.append_right _)⟩
theorem mvRow_rng {n:Nat} {L S R:List Int} {bd:Int} {v:Nat} {b:Mv} (hv:v<n) (hb:b=(0,0,0)∨∃ (y j:Nat) (g:Int),b=((y:Int),(j:Int),g)∧y<n∧j<S.length):∀ j,j≤S.length→jT L S R bd v j b=(0,0,0)∨∃ (y k:Nat) (g:Int),jT L S R bd v j b=((y:Int),(k:Int),g)∧y<n∧k<S.length
 |0,_=>hb
 |j+1,h=>by
  rw [kN]
  unfold mvUp
  split
  ·exact .inr ⟨v,j,_,rfl,hv,aA⟩
  ·exact mvRow_rng hv hb j aA
theorem mvTo_rng {n:Nat} {L S:List Int} {rows:Nat→List Int} {bd:Int}:∀ k,k≤n→j9 L S rows bd k=(0,0,0)∨∃ (y j:Nat) (g:Int),j9 L S rows bd k=((y:Int),(j:Int),g)∧y<n∧j<S.length
 |0,_=> .inl rfl
 |k+1,h=>by
  rw [mvTo_next];exact mvRow_rng aA (mvTo_rng k aA) _ (Nat.le_refl _)
abbrev LSt:=List Int×List Int
def mvOf (n:Nat) (rows:Nat→List Int) (bd:Int) (s:LSt):Mv:=j9 s.1 s.2 rows bd n
def mvDo (L:List Int) (v:Nat) (j:Int):LSt:=(tdy (L.set v j),szs (sns (L.set v j)).length (tdy (L.set v j)))
def jN (n:Nat) (rows:Nat→List Int) (bd:Int):Nat→LSt→LSt×Nat
 |0,s=>(s,0)
 |k+1,s=>if 0<(mvOf n rows bd s).2.2 then ((jN n rows bd k (mvDo s.1 (mvOf n rows bd s).1.toNat (mvOf n rows bd s).2.1)).1,(jN n rows bd k (mvDo s.1 (mvOf n rows bd s).1.toNat (mvOf n rows bd s).2.1)).2+1) else (s,0)
def impR (N:Int) (l:List Arc) (L:List Int) (bd most:Int):List Int×Int×Int:=
 if iC N l L bd≠0 then ([],0,iC N l L bd) else if most<0∨16384<most then ([],0,1) else
  ((jN N.toNat (fun v=>dS (v:Int) l) bd most.toNat (L,d3 L)).1.1,((jN N.toNat (fun v=>dS (v:Int) l) bd most.toNat (L,d3 L)).2:Int),0)
theorem Improve_spec (N:Int) (A B:Option Addr) (l:List Arc) (cap:Nat) (L:List Int) (cb:Nat) (bd most:Int) (w:World) (hr:Ro (Fr w []) w A (l.flatMap cH)) (hl:l.length≤9223372036854775807) (hN:I64 N) (hok:∀ x∈l,eN x) (hL:Ro (Fr w []) w B (a8 L)) (hm:L.length≤9223372036854775807):
    Meets Tryz.prog 85 [.agg #[.int .i64 N,.slice A l.length cap],.slice B L.length cb,.int .i64 bd,.int .i64 most] w []
      (fun u own' =>∃ s ms,u= .tuple #[s,.int .i64 (impR N l L bd most).2.1,.int .i64 (impR N l L bd most).2.2]∧own' =[ms]∧Own 3 1 s (impR N l L bd most).1.length (a8 (impR N l L bd most).1) ms):=by
 have ai:iC N l L bd=0→(fQ N l L).2=0:=fun h=>by
   unfold iC at h
   by_cases h1:(fQ N l L).2≠0
   ·rw [if_pos h1] at h;exact absurd h h1
   ·omega
 refine bG Tryz.func85 rfl Tryz.ntmps85 rfl Owns.nil<|aG fun kh1=>f_S (cZ rfl rfl fun b4=>?_)
 refine aB 3 rfl<|aD kh1<|aG fun kh2=>f_Q (aQ (vs:=[_,_]) Tryz.isAgg24 Tryz.sizeOf24 rfl rfl ⟨(rdA rfl),(rdA rfl),trivial⟩)<|aB 2 rfl ?_
 refine f_S (aW Tryz.call139 rfl (fun w_ hp_=>ready_spec N A B l cap L cb bd w_ (hr.up0 hp_) hl hN hok (hL.up0 hp_) hm) ?_);intro ak U hv
 obtain ⟨ac,Z,rfl,hq⟩:∃ ac Z,ak= .tuple #[ac,.int .i64 Z]∧((Z=0∧iC N l L bd=0∧∃ bs m,ac= .pointer (some ⟨bs,0,none⟩)∧U=[m]∧LRep N.toNat (fun v=>dS (v:Int) l) L (d3 L) bs m)∨(Z≠0∧Z=iC N l L bd∧U=[])):=by
   by_cases h0:iC N l L bd=0
   ·rw [if_pos h0] at hv;obtain ⟨bs,m,rfl,h1,h2⟩:=hv;exact ⟨_,_,rfl,.inl ⟨rfl,h0,bs,m,rfl,h1,h2⟩⟩
   ·rw [if_neg h0] at hv;obtain ⟨rfl,h1⟩:=hv;exact ⟨_,_,rfl,.inr ⟨h0,rfl,h1⟩⟩
 rw [show U=[]++U from rfl];dsimp only [aK,aJ];refine aB 5 rfl<|aD kh2<|aV fun kh3=>aG fun kh4=>aB 2 rfl<|aD kh4<|aX rfl (fun c22=>?_) (fun c22=>?_)
 ·obtain ⟨h0,he,rfl⟩:=hq.resolve_left (fun h=>c22 h.1)
  dsimp only [List.nil_append];refine aG fun aq=>aB 4 rfl<|aD aq<|aZ<|dA ?_
  have e:impR N l L bd most=([],0,iC N l L bd):=if_pos (by rw [← he];exact h0)
  exact lA [[]] Tryz.results85 rfl rfl rfl Sub.empty ⟨_,_,by rw [e,← he],rfl,by rw [e];exact Own.nil _ _⟩
 ·obtain ⟨rfl,h0,bs,m,rfl,rfl,hS⟩:=hq.resolve_right (fun h=>c22 h.1)
  dsimp only [aK,aJ];obtain ⟨hg,ar⟩:=lcount_ok (ai h0)
  obtain ⟨n,rfl⟩:∃ n:Nat,N=(n:Int):=⟨N.toNat,by have:=cF hg;omega⟩
  rw [Int.toNat_natCast] at hS;have hO:=lok_begin hg ar
  have hR:∀ q,impR (n:Int) l L bd q=if q<0∨16384<q then ([],0,1) else ((jN n (fun v=>dS (v:Int) l) bd q.toNat (L,d3 L)).1.1,((jN n (fun v=>dS (v:Int) l) bd q.toNat (L,d3 L)).2:Int),0):=fun q=>by rw [impR,if_neg (by rw [h0];simp),Int.toNat_natCast]
  refine bZ kh3<|aV fun kh6=>aG fun kh7=>aB 3 rfl<|eA 26 rfl (fun g26=>?_) (fun g26=>?_)
  ·refine aB 3 rfl<|aD kh7<|eW rfl<|aG fun kh8=>aB 3 rfl<|aD kh8<|aZ<|dA ?_
   have e:=hR most
   rw [if_pos (.inl g26)] at e;exact lA [[]] Tryz.results85 rfl rfl rfl Sub.empty ⟨_,_,by rw [e],rfl,by rw [e];exact Own.nil _ _⟩
  ·refine aB 3 rfl<|aD kh7<|aX rfl (fun c29=>?_) (fun c29=>?_)
   ·refine aG fun ap=>aB 3 rfl<|aD ap<|aZ<|dA ?_
    have e:=hR most
    rw [if_pos (.inr aA)] at e;exact lA [[]] Tryz.results85 rfl rfl rfl Sub.empty ⟨_,_,by rw [e],rfl,by rw [e];exact Own.nil _ _⟩
   ·refine bZ kh6<|aV fun kh10=>aS ?_
    refine dF (α:=List Int×List Int×Nat×Seg) [2,3,11] (fun ⟨F,J,mv,m1⟩=>[(9,.int .i64 (mv:Int))]) (fun ⟨F,J,mv,m1⟩=>[m1]) (fun ⟨F,J,mv,m1⟩=>(mv:Int)≤most∧LRep n (fun v=>dS (v:Int) l) F J bs m1∧LOk n (fun v=>dS (v:Int) l) F J∧jN n (fun v=>dS (v:Int) l) bd most.toNat (L,d3 L)=((jN n (fun v=>dS (v:Int) l) bd (most.toNat - mv) (F,J)).1,mv+(jN n (fun v=>dS (v:Int) l) bd (most.toNat - mv) (F,J)).2)) (fun ⟨F,J,mv,m1⟩=>most.toNat - mv) (L,d3 L,0,m) ?_ ?_ ?_ ?_
    ·exact aF
    ·exact aC
    ·exact ⟨aA,hS,hO,by rw [Nat.sub_zero,Nat.zero_add]⟩
    ·rintro ⟨F,J,mv,m1⟩ ⟨au,aa,ae,X⟩;refine aV fun aj=>aG fun kh12=>aB 3 rfl<|aD kh12<|aX rfl (fun c32=>?_) (fun c32=>?_)
     ·refine bZ aj<|aS<|aG fun kh13=>aB 2 rfl ?_
      refine f_S (aW Tryz.call140 rfl (fun w_ hp_=>(by obtain ⟨Al,cl,bo,bz,vs,hs⟩:=aa.sees hp_;exact lnext_spec n _ F J bs Al cl bo bz vs bd w_ hs ae)) ?_);rintro _ _ ⟨rfl,rfl⟩;dsimp only [aK,aJ];refine aB 3 rfl<|f_S (cX Tryz.zeroValue229 rfl fun b12=>?_)
      refine f_Z (bS Tryz.sizeOf229 rfl rfl rfl rfl cG (mvCs (j9 F J (fun v=>dS (v:Int) l) bd n)) rfl ?_);refine aB 1 rfl<|aD kh13<|aV fun kh14=>aG fun kh15=>aB 2 rfl<|aD kh15<|e8 rfl (fun c40=>?_) (fun c40=>?_)
      ·have ah:¬ 0<(j9 F J (fun v=>dS (v:Int) l) bd n).2.2:=by simpa using c40
       have Y:jN n (fun v=>dS (v:Int) l) bd (most.toNat - mv) (F,J)=((F,J),0):=by
         obtain ⟨k,hk⟩:∃ k,most.toNat - mv=k+1:=⟨most.toNat - mv - 1,aA⟩
         have e:mvOf n (fun v=>dS (v:Int) l) bd (F,J)=j9 F J (fun v=>dS (v:Int) l) bd n:=rfl
         rw [hk,jN,e,if_neg ah]
       rw [Y] at X;obtain ⟨Al,cl,ml,bo,vs,ms,bz,hsm,ad,am⟩:=aa
       refine cS<|cU<|f_bo rfl<|cU<|eH<|bP kh10<|aV fun kh16=>eP (Sub.opn (out:=pR bs Al cl F ml bo n vs ms.flatten bz J) hsm) ?_
       unfold pR
       refine aI<|aB 1 rfl<|f_Q (dD rfl)<|cN mY rfl<|c7 Tryz.isAgg25 rfl (rdA rfl)<|aB 4 rfl<|aD kh16<|aZ ?_
       have e:=hR most
       rw [if_neg aA,X] at e;exact lA [ml] Tryz.results85 rfl rfl rfl (by repeat (first|exact aP|refine aL ?_|refine bV rfl ?_)) ⟨.slice Al F.length cl,ml,by rw [e];simp,rfl,by rw [e];exact ad⟩
      ·have O:0<(j9 F J (fun v=>dS (v:Int) l) bd n).2.2:=by simpa using c40
       obtain ⟨y,j,g,ag,al,ao⟩:=(mvTo_rng (n:=n) (L:=F) (S:=J) (rows:=fun v=>dS (v:Int) l) (bd:=bd) n (Nat.le_refl _)).resolve_left (fun h=>by rw [h] at O;simp at O)
       have ab:jN n (fun v=>dS (v:Int) l) bd (most.toNat - mv) (F,J)=((jN n (fun v=>dS (v:Int) l) bd (most.toNat - (mv+1)) ((mvDo F y (j:Int)).1,(mvDo F y (j:Int)).2)).1,(jN n (fun v=>dS (v:Int) l) bd (most.toNat - (mv+1)) ((mvDo F y (j:Int)).1,(mvDo F y (j:Int)).2)).2+1):=by
         obtain ⟨k,hk⟩:∃ k,most.toNat - mv=k+1:=⟨most.toNat - mv - 1,aA⟩
         have e:mvOf n (fun v=>dS (v:Int) l) bd (F,J)=((y:Int),(j:Int),g):=ag
         rw [ag] at O;rw [hk,jN,e,if_pos O,show most.toNat - (mv+1)=k by omega];rfl
       rw [ab] at X;rw [ag];refine bZ kh14<|aG fun kh17=>aB 1 rfl<|f_Q (aQ (vs:=[_,_,_]) Tryz.isAgg229 Tryz.sizeOf229 rfl rfl ⟨(rdA rfl),(rdA rfl),(rdA rfl),trivial⟩) ?_
       refine f_S (d5 [m1] _ Tryz.call141 rfl (by repeat (first|exact Sub.refl|refine aL ?_)) (fun w_ hp_=>do_spec n _ F J bs m1 y j g w_ aa ae al ao hp_.owns) ?_);rintro _ _ ⟨m2,rfl,an⟩;dsimp only [aK,aJ];refine aD kh17<|aI<|aB 1 rfl<|f_Q (bF rfl rfl)<|aB 1 rfl<|aY<|dI ?_
       refine cV (a6 ((mvDo F y (j:Int)).1,(mvDo F y (j:Int)).2,mv+1,m2) (by first|omega|(dsimp only;omega)|(simp;omega)) ⟨aA,an,lok_do ae y (j:Int),by rw [X];congr 1;omega⟩ ?_ ?_ ?_)
       ·exact aF
       ·exact aF
       ·exact aC
     ·have Y:jN n (fun v=>dS (v:Int) l) bd (most.toNat - mv) (F,J)=((F,J),0):=by rw [show most.toNat - mv=0 by omega];rfl
      rw [Y] at X;obtain ⟨Al,cl,ml,bo,vs,ms,bz,hsm,ad,am⟩:=aa
      refine cS<|cU<|cU<|eH<|bP kh10<|aV fun kh18=>eP (Sub.opn (out:=pR bs Al cl F ml bo n vs ms.flatten bz J) hsm) ?_
      unfold pR
      refine aI<|aB 1 rfl<|f_Q (dD rfl)<|cN mY rfl<|c7 Tryz.isAgg25 rfl (rdA rfl)<|aB 4 rfl<|aD kh18<|aZ ?_
      have e:=hR most
      rw [if_neg aA,X] at e;exact lA [ml] Tryz.results85 rfl rfl rfl (by repeat (first|exact aP|refine aL ?_|refine bV rfl ?_)) ⟨.slice Al F.length cl,ml,by rw [e];simp,rfl,by rw [e];exact ad⟩

theorem ready_ok {N:Int} {l:List Arc} {L:List Int} {bd:Int} (h:iC N l L bd=0):(fQ N l L).2=0∧fC (d3 L)≤bd:=by
 unfold iC at h
 by_cases h1:(fQ N l L).2≠0
 ·rw [if_pos h1] at h;exact absurd h h1
 ·rw [if_neg h1] at h
  by_cases h2:bd<1∨1024<bd
  ·rw [if_pos h2] at h;simp at h
  ·rw [if_neg h2] at h
   by_cases h3:bd<fC (d3 L)
   ·rw [if_pos h3] at h;simp at h
   ·exact ⟨aA,aA⟩
theorem sizes_cnt {L:List Int} {i:Nat} (h:i<(d3 L).length):(d3 L)[i]=(cnt L i:Int):=by
 have h' :i<(fC L+1).toNat:=by unfold d3 at h;rwa [gO] at h
 exact kU h'
structure LInv (n:Nat) (l:List Arc) (bd:Int) (s:LSt):Prop where
 len:s.1.length=n
 right:eG (n:Int) s.1=true
 size:s.2=d3 s.1
 bound:∀ x∈s.2,x≤bd
theorem LInv.step {n:Nat} {l:List Arc} {bd:Int} {s:LSt} (hg:(cL (n:Int) l).2=0) (h:LInv n l bd s) (ho:0<(mvOf n (fun v=>dS (v:Int) l) bd s).2.2):
  LInv n l bd (mvDo s.1 (mvOf n (fun v=>dS (v:Int) l) bd s).1.toNat (mvOf n (fun v=>dS (v:Int) l) bd s).2.1)∧(qW n l (mvDo s.1 (mvOf n (fun v=>dS (v:Int) l) bd s).1.toNat (mvOf n (fun v=>dS (v:Int) l) bd s).2.1).1:Int)=qW n l s.1 - (mvOf n (fun v=>dS (v:Int) l) bd s).2.2:=by
 obtain ⟨L,S⟩:=s
 obtain ⟨hL,J,hS,hB⟩:=h
 simp only at hL J hS hB;subst hS;have ab:=(lok_begin hg J).n1
 obtain ⟨_,X,ae,ad⟩:=qA J ab.1
 obtain ⟨y,j,ac,ag,U,Z⟩:=(to_is (n:=n) (L:=L) (S:=d3 L) (rows:=fun v=>dS (v:Int) l) (bd:=bd) n (Nat.le_refl _)).resolve_left (fun h=>by unfold mvOf at ho;rw [h] at ho;simp at ho)
 have e:mvOf n (fun v=>dS (v:Int) l) bd (L,d3 L)=((y:Int),(j:Int),gn L (dS (y:Int) l) (lab L (y:Int)) (j:Int)):=ac
 rw [e] at ho ⊢;simp only [Int.toNat_natCast];have F:(L.set y (j:Int)).length=n:=by rw [List.length_set];exact hL
 have O:GoodC n l:=raw_good (cF hg).2.2.2
 have Y:=cut_set O (L:=L) (v:=y) aA (j:Int)
 have aa:qW n l (tdy (L.set y (j:Int)))=qW n l (L.set y (j:Int)):=cut_tdy F
 refine ⟨⟨by unfold mvDo;rw [gI];exact F,right_tdy F,sizes_tdy aA,?_⟩,?_⟩
 ·refine size_move (M:=(d3 L).length) aA U (fun x hx=>⟨(X x hx).1,(X x hx).2.1⟩) (fun i hi=>?_) ?_
  ·rw [← sizes_cnt hi];exact hB _ (List.getElem_mem hi)
  ·rw [← sizes_cnt U];have:=Z.2;rw [List.getD_eq_getElem?_getD,List.getElem?_eq_getElem U] at this;exact this
 ·show (qW n l (tdy (L.set y (j:Int))):Int)=_
  rw [aa];exact Y
theorem LInv.go {n:Nat} {l:List Arc} {bd:Int} (hg:(cL (n:Int) l).2=0):∀ (k:Nat) (s:LSt),LInv n l bd s→LInv n l bd (jN n (fun v=>dS (v:Int) l) bd k s).1∧qW n l (jN n (fun v=>dS (v:Int) l) bd k s).1.1+(jN n (fun v=>dS (v:Int) l) bd k s).2≤qW n l s.1
 |0,s,h=>⟨h,by simp [jN]⟩
 |k+1,s,h=>by
  rw [jN]
  by_cases hc:0<(mvOf n (fun v=>dS (v:Int) l) bd s).2.2
  ·rw [if_pos hc]
   obtain ⟨h1,h2⟩:=h.step hg hc
   obtain ⟨h3,F⟩:=LInv.go hg k _ h1
   refine ⟨h3,?_⟩;simp only;omega
  ·rw [if_neg hc];exact ⟨h,aO⟩
def badB (bs:List Int):Bool:=(List.range bs.length).any fun k=>decide (bs.getD k 0≤m9 bs k∨1024<bs.getD k 0)
def plE (N:Int) (l:List Arc) (bs cs:List Int) (mv:Int):Int:=
 if (cL N l).2≠0 then (cL N l).2 else if bs.length<1∨5<bs.length then 111 else if badB bs=true then 1 else if 16384<cs.length then 2 else if cs.any (offV N)=true then 5 else if mv<0∨16384<mv then 1 else 0
structure PlOk (n:Nat) (l:List Arc) (bs cs:List Int) (mv:Int):Prop where
 g:(cL (n:Int) l).2=0
 many:1≤bs.length∧bs.length≤5
 bnd:∀ k,k<bs.length→m9 bs k<bs.getD k 0∧bs.getD k 0≤1024
 few:cs.length≤16384
 rng:∀ v∈cs,0≤v∧v<(n:Int)
 moves:0≤mv∧mv≤16384
theorem badB_no {bs:List Int}:badB bs=false↔∀ k,k<bs.length→m9 bs k<bs.getD k 0∧bs.getD k 0≤1024:=by
 unfold badB
 rw [List.any_eq_false];constructor
 ·intro h k hk
  have:=h k (by simpa using hk)
  simp only [decide_eq_true_eq] at this;omega
 ·intro h k hk
  have:=h k (by simpa using hk)
  simp only [decide_eq_true_eq];omega
theorem plE_zero {N:Int} {l:List Arc} {bs cs:List Int} {mv:Int} (h:plE N l bs cs mv=0):∃ n:Nat,N=(n:Int)∧PlOk n l bs cs mv:=by
 unfold plE at h
 by_cases hg:(cL N l).2=0
 ·rw [if_neg (by rw [hg];simp)] at h
  by_cases h1:bs.length<1∨5<bs.length
  ·rw [if_pos h1] at h;cases h
  ·rw [if_neg h1] at h
   by_cases h2:badB bs=true
   ·rw [if_pos h2] at h;cases h
   ·rw [if_neg h2] at h
    by_cases h3:16384<cs.length
    ·rw [if_pos h3] at h;cases h
    ·rw [if_neg h3] at h
     by_cases F:cs.any (offV N)=true
     ·rw [if_pos F] at h;cases h
     ·rw [if_neg F] at h
      by_cases J:mv<0∨16384<mv
      ·rw [if_pos J] at h;cases h
      ·have hz:=cF hg
       obtain ⟨n,rfl⟩:∃ n:Nat,N=(n:Int):=⟨N.toNat,aA⟩
       refine ⟨n,rfl,hg,aA,badB_no.1 (by simpa using h2),aA,fun v hv=>?_,aA⟩;have:=List.any_eq_false.1 (by simpa using F) v hv
       unfold offV at this
       simp at this;omega
 ·rw [if_pos hg] at h;exact absurd h hg
theorem PlOk.first {n:Nat} {l:List Arc} {bs cs:List Int} {mv:Int} (h:PlOk n l bs cs mv):1≤bs.getD 0 0∧bs.getD 0 0≤1024:=by
 have:=h.bnd 0 (by have:=h.many;omega)
 have e:m9 bs 0=0:=rfl
 omega
def LowN (n:Nat) (l:List Arc) (b:Int) (cs:List Int) (mv:Int) (L:List Int):Prop:=
 ∃ (M:List Pr) (p:List Nat) (J:List Int),M.Pairwise ltX∧OutI n l b cs M∧IsParts n (ends2 (nS M l)) p∧JInv n l b (cutL l (natN p) b.toNat) J∧smL (prs n l) J b=[]∧JTo n l b (cutL l (natN p) b.toNat) J∧L=(impR (n:Int) l J b mv).1
theorem ready_size {n:Nat} {l:List Arc} {L:List Int} {b:Int} (hg:(cL (n:Int) l).2=0) (J:eG (n:Int) L=true) (hb:1≤b∧b≤1024) (hs:∀ y,(gJ L y:Int)≤b):iC (n:Int) l L b=0:=by
 have hn:=cF hg
 have F:=e7 J aA
 have hl:=(d6 J).2
 have O:=F _ (List.getElem_mem (show 0<L.length by omega))
 unfold iC
 rw [if_neg (by rw [lc_zeroN hg J];simp),if_neg aA,if_neg];have:=max_cntN (L:=L) (by unfold d3;rw [gO];omega) hs
 omega
theorem imp_right {n:Nat} {l:List Arc} {L:List Int} {b mv:Int} (hg:(cL (n:Int) l).2=0) (J:eG (n:Int) L=true) (hb:1≤b∧b≤1024) (hs:∀ y,(gJ L y:Int)≤b) (hm:0≤mv∧mv≤16384):
  (impR (n:Int) l L b mv).2.2=0∧eG (n:Int) (impR (n:Int) l L b mv).1=true∧∀ y,(gJ (impR (n:Int) l L b mv).1 y:Int)≤b:=by
 have O:=ready_size hg J hb hs
 have hn:=cF hg
 have Y:LInv n l b (L,d3 L):=by
  obtain ⟨U,hm2⟩:=ready_ok O
  exact ⟨(qA J aA).1,J,rfl,fun x hx=>Int.le_trans (iL hx) hm2⟩
 obtain ⟨hA,_⟩:=LInv.go hg mv.toNat _ Y
 have e:impR (n:Int) l L b mv=((jN n (fun v=>dS (v:Int) l) b mv.toNat (L,d3 L)).1.1,((jN n (fun v=>dS (v:Int) l) b mv.toNat (L,d3 L)).2:Int),0):=by
  unfold impR;rw [if_neg (by rw [O];simp),if_neg aA,Int.toNat_natCast]
 rw [e];refine ⟨rfl,hA.right,fun y=>?_⟩;simp only
 generalize (jN n (fun v=>dS (v:Int) l) b mv.toNat (L,d3 L)).1=s at hA
 by_cases hy:y∈s.1
 ·have X:=e7 hA.right aA y hy
  obtain ⟨j,rfl⟩:∃ j:Nat,y=(j:Int):=⟨y.toNat,aA⟩
  have F:(cnt s.1 j:Int)∈s.2:=by
   rw [hA.size];unfold d3 szs
   exact List.mem_map.2 ⟨j,by rw [List.mem_range];omega,rfl⟩
  have:=hA.bound _ F
  rw [cnt_is] at this;exact this
 ·rw [kT hy];omega
theorem natN_right {n:Nat} {p:List Nat} (h:Tidy p) (hl:p.length=n):eG (n:Int) (natN p)=true:=by
 have key:∀ (Q P:List Nat),(∀ k (h:k<Q.length),Q[k]≤nxt (P++Q) (P.length+k))→rgo ((nxt P P.length:Nat):Int) (natN Q)=true:=by
  intro Q
  induction Q with
  |nil=>intro P _;rfl
  |cons y Q ih=>
   intro P h;have O:nxt (P++y::Q) P.length=nxt P P.length:=nP _ _ _ fun j hj=>List.getElem?_append_left hj
   have J:=h 0 aO
   simp only [List.getElem_cons_zero,Nat.add_zero] at J;rw [O] at J
   have hn:nxt (P++[y]) (P++[y]).length=if y=nxt P P.length then nxt P P.length+1 else nxt P P.length:=by
    rw [List.length_append,List.length_singleton];have e1:nxt (P++[y]) P.length=nxt P P.length:=nP _ _ _ fun j hj=>List.getElem?_append_left hj
    show (if (P++[y])[P.length]? =some (nxt (P++[y]) P.length) then nxt (P++[y]) P.length+1 else nxt (P++[y]) P.length)=_
    rw [e1,List.getElem?_append_right (Nat.le_refl _),Nat.sub_self]
    by_cases hy:y=nxt P P.length
    ·rw [if_pos hy];rw [if_pos (by simp [← hy])]
    ·rw [if_neg hy,if_neg (by simpa using hy)]
   have F:=ih (P++[y]) fun k hk=>by
    have:=h (k+1) (by simpa using hk)
    simp only [List.getElem_cons_succ] at this;rw [List.length_append,List.length_singleton,List.append_assoc];rw [show P.length+(k+1)=P.length+1+k by omega] at this;exact this
   rw [hn] at F
   show rgo _ ((y:Int)::natN Q)=true
   unfold rgo
   rw [if_neg aA]
   by_cases hy:y=nxt P P.length
   ·rw [if_pos hy] at F;rw [if_pos aA];exact F
   ·rw [if_neg hy] at F;rw [if_neg aA];exact F
 have:=key p [] (fun k hk=>by have:=h k hk;simpa using this)
 unfold eG
 rw [show rgo 0 (natN p)=true from this,natN_len,hl];simp
theorem LowN.right {n:Nat} {l:List Arc} {b:Int} {cs:List Int} {mv:Int} {L:List Int} (hg:(cL (n:Int) l).2=0) (hb:1≤b∧b≤1024) (hm:0≤mv∧mv≤16384) (h:LowN n l b cs mv L):eG (n:Int) L=true∧∀ y,(gJ L y:Int)≤b:=by
 obtain ⟨M,p,J,_,_,hp,F,_,_,rfl⟩:=h
 exact (imp_right hg F.right hb F.size hm).2
theorem joinE_zeroM {n:Nat} {l:List Arc} {L:List Int} {bd:Int} (hg:(cL (n:Int) l).2=0) (J:eG (n:Int) L=true) (hb:1≤bd∧bd≤1024) (hs:∀ y,(gJ L y:Int)≤bd):joinE (n:Int) l L bd=0:=by
 have hn:=cF hg
 have F:=e7 J aA
 have hl:=(d6 J).2
 have O:0<L.length:=aA
 have hx:=F L[0] (List.getElem_mem O)
 unfold joinE
 rw [if_neg (by rw [spE_oneN hg J hb];simp),if_neg (by have:=max_cnt (L:=L) (by unfold d3;rw [gO];omega) hs;omega)]
structure MkTo (n:Nat) (l:List Arc) (bs cs:List Int) (mv:Int) (L:List (List Int)):Prop where
 low:LowN n l (bs.getD 0 0) cs mv (L.getD 0 [])
 up:∀ k,k+1<L.length→JInv n l (bs.getD (k+1) 0) (L.getD k []) (L.getD (k+1) [])∧smL (prs n l) (L.getD (k+1) []) (bs.getD (k+1) 0)=[]∧JTo n l (bs.getD (k+1) 0) (L.getD k []) (L.getD (k+1) [])
theorem MkTo.right {n:Nat} {l:List Arc} {bs cs:List Int} {mv:Int} {L:List (List Int)} (F:PlOk n l bs cs mv) (h:MkTo n l bs cs mv L) {k:Nat} (hk:k<L.length):eG (n:Int) (L.getD k [])=true∧∀ y,(gJ (L.getD k []) y:Int)≤bs.getD k 0:=by
 cases k with
 |zero=>exact h.low.right F.g F.first F.moves
 |succ k=>have:=(h.up k hk).1;exact ⟨this.right,this.size⟩
theorem qO {L:List (List Int)} {x:List Int} {k:Nat} (h:k<L.length):(L++[x]).getD k []=L.getD k []:=by
 simp [List.getD_eq_getElem?_getD,List.getElem?_append_left h]
theorem getD_lastL {L:List (List Int)} {x:List Int}:(L++[x]).getD L.length []=x:=by simp [List.getD_eq_getElem?_getD]
theorem MkTo.snoc {n:Nat} {l:List Arc} {bs cs:List Int} {mv:Int} {L:List (List Int)} {x:List Int} (h:MkTo n l bs cs mv L) (F:0<L.length)
  (hx:JInv n l (bs.getD L.length 0) (L.getD (L.length - 1) []) x∧smL (prs n l) x (bs.getD L.length 0)=[]∧JTo n l (bs.getD L.length 0) (L.getD (L.length - 1) []) x):MkTo n l bs cs mv (L++[x]) where
 low:=by rw [qO F];exact h.low
 up:=fun k hk=>by
  rw [List.length_append,List.length_singleton] at hk
  by_cases e:k+1=L.length
  ·rw [qO (show k<L.length by omega),e,getD_lastL,show k=L.length - 1 by omega];exact hx
  ·rw [qO (show k<L.length by omega),qO (show k+1<L.length by omega)];exact h.up k aA
theorem lab_getD {L:List Int} {u:Nat}:lab L (u:Int)=L.getD u 0:=by unfold lab;rw [Int.toNat_natCast]
theorem made_ok {n:Nat} {l:List Arc} {bs cs:List Int} {mv:Int} {L:List (List Int)} (F:PlOk n l bs cs mv) (h:MkTo n l bs cs mv L) (hl:L.length=bs.length):NestOk n l bs L where
 g:=F.g
 many:=F.many
 len:=hl
 lv:=fun k hk=>by
  rw [pP F.g];have hr:=h.right F (k:=k) aA
  refine ⟨F.bnd k hk,hr.1,hr.2,fun U=>?_⟩;obtain ⟨j,rfl⟩:∃ j,k=j+1:=⟨k - 1,aA⟩
  have hj:=(h.up j aA).1
  have J:=h.right F (k:=j) aA
  have hlen:=(d6 J.1).2
  rw [Nat.add_sub_cancel];intro u O v hv e;have:=hj.coarse u v aA aA (by rw [lab_getD,lab_getD];exact e)
  rwa [lab_getD,lab_getD] at this
abbrev ckSegs (bs bn bo len cap bd:Nat):List Seg:=[[(bs,blk [.slice (some ⟨bo,0,none⟩) len cap] 25)],[(bn,blk [.int .i64 (bd:Int)] 3)]]
abbrev ckEnc (bo len bd:Nat) (y:Nat):Value:= .slice (some ⟨bo,y,none⟩) (min bd (len - y)) (min bd (len - y))
def ckMay (len bd:Nat) (ys:List Nat) (y:Nat):Prop:=y=ys.length*bd∧ys.length*bd<len
def ckFin (bs bn bo len cap bd:Nat) (ys:List Nat) (o:List Seg):Prop:=len≤ys.length*bd∧o=ckSegs bs bn bo len cap bd
def ckStp (bs bn bo len cap bd:Nat) (ys:List Nat) (o:List Seg):Prop:=o=ckSegs bs bn bo len cap bd
theorem Chunk_spec (bo len cap bd:Nat) (w:World) (h:0<bd):
    Meets Tryz.prog 138 [.slice (some ⟨bo,0,none⟩) len cap,.int .i64 (bd:Int)] w [] (fun u own' =>∃ bs bn,u= .func (.func 170) #[] #[.pointer (some ⟨bs,0,none⟩),.pointer (some ⟨bn,0,none⟩)]∧own' =ckSegs bs bn bo len cap bd):=by
 refine bG Tryz.func138 rfl Tryz.ntmps138 rfl Owns.nil<|aG fun kh1=>f_S (cZ rfl rfl fun J=>?_)
 refine f_S (cZ rfl rfl fun F=>?_);refine aB 1 rfl<|aD kh1<|aV fun kh2=>aG fun kh3=>c7 Tryz.isAgg3 rfl (rdA rfl)<|aB 1 rfl<|aD kh3<|d4 rfl aA<|bZ kh2<|aG fun kh4=>?_
 refine f_Q (mH rfl rfl)<|aB 1 rfl<|aD kh4<|aZ ?_
 exact bO (ckSegs J F bo len cap bd) Tryz.results138 rfl aC ⟨J,F,rfl,rfl⟩
theorem Chunk1_iter (bs bn bo len cap bd:Nat) (m0:Seg) (w:World) (h:0<bd∧bd≤1000000) (hl:len≤1000000) (hc:len≤cap∧cap≤9223372036854775807):
    IterAt Tryz.prog 170 [.pointer (some ⟨bs,0,none⟩),.pointer (some ⟨bn,0,none⟩)] (ckSegs bs bn bo len cap bd) (ckEnc bo len bd) (ckMay len bd) (ckFin bs bn bo len cap bd) (ckStp bs bn bo len cap bd) m0 w:=by
 intro l_ J Jx ab U hY;refine r_enter Tryz.func170 rfl Tryz.ntmps170 rfl U ?_;refine dW fun K1 ah=>?_;refine cA ?_;refine aN rfl rfl rfl rfl (bI rfl) ?_;refine dM ?_;refine eB (ah _ _ _ ?_);refine f9 ?_;refine r_loop (α:=Nat×List Nat×Seg) (fun ⟨p,ys,O⟩=>[]) [0,1,2] (fun ⟨p,ys,O⟩=>[(4,.int .i64 (p:Int))]) (fun ⟨p,ys,O⟩=>[O,[(bs,blk [.slice (some ⟨bo,0,none⟩) len cap] 25)],[(bn,blk [.int .i64 (bd:Int)] 3)]]) (fun ⟨p,ys,O⟩=>p=ys.length*bd∧p<len+bd∧J ys O) (fun ⟨p,ys,O⟩=>len+bd - p) (0,[],m0) rfl ?_ ?_ ?_ ?_
 ·exact aF
 ·exact aC
 ·exact ⟨aO,aA,ab⟩
 ·rintro ⟨p,ys,O⟩ ⟨hp,aj,hJ⟩;dsimp only;refine dW fun K2 ai=>?_;refine dW fun K3 Z=>?_;refine cA ?_;refine aN rfl rfl rfl rfl (aR rfl) ?_;refine aN rfl rfl rfl rfl (aH Tryz.isAgg25 rfl (rdA rfl)) ?_;refine aN rfl rfl rfl rfl (iZ bU rfl) ?_;refine aN rfl rfl rfl rfl (o_lss rfl rfl) ?_;refine dM ?_;refine eB (Z _ _ _ ?_);refine kM rfl (fun c9=>?_) (fun c9=>?_)
  ·have ak:p<len:=aA
   refine iX ?_;refine eB (ai _ _ _ ?_);refine dW fun K4 ac=>?_;refine f9 ?_;refine dW fun K5 ag=>?_;refine r_old ?_;refine gG 6 rfl aU<|gH Tryz.isAgg3 rfl (rdA rfl)<|gH Tryz.isAgg25 rfl (rdA rfl)<|dN 1 rfl<|dG (f7 bU rfl rfl rfl rfl (fun h=>by cases h) p _ _ (.inr ⟨_,_,rfl,aA⟩) (.inl ⟨rfl,rfl⟩) (.inl ⟨rfl,rfl⟩) ⟨aA,aA,aA⟩ (.slice (some ⟨bo,p,none⟩) (len - p) (cap - p)) (by rw [if_neg aA];simp [dH])) ?_
   refine dG (iZ bU rfl)<|dG (oH rfl rfl)<|eK (i3 ?_)
   refine aB 1 rfl<|aY ?_
   refine r_new ?_;refine eB (ag _ _ _ ?_);refine dW fun K6 ad=>?_;refine cA ?_;refine aN rfl rfl rfl rfl (aR rfl) ?_;refine aN rfl rfl rfl rfl (aH Tryz.isAgg25 rfl (rdA rfl)) ?_;refine aN rfl rfl rfl rfl (aR rfl) ?_;refine aN rfl rfl rfl rfl (aR rfl) ?_;refine aN rfl rfl rfl rfl (aR rfl) ?_;refine aN rfl rfl rfl rfl (bF rfl rfl) ?_;refine aN rfl rfl rfl rfl (aR rfl) ?_;refine aN rfl rfl rfl rfl (aR rfl) ?_;refine aN rfl rfl rfl rfl (bF rfl rfl) ?_;refine aN rfl rfl rfl rfl (f7 bU rfl rfl rfl rfl (fun _=>rfl) p (p+min bd (len - p)) (p+min bd (len - p)) (.inr ⟨_,_,rfl,aA⟩) (.inr ⟨_,_,rfl,aA⟩) (.inr ⟨_,_,rfl,aA⟩) ⟨aA,aA,aA⟩ (ckEnc bo len bd p) (by rw [if_neg aA];simp [dH,ckEnc])) ?_;refine fS rfl rfl rfl (o_yield [O] _ rfl rfl (by repeat (first|exact Sub.refl|refine aL ?_)) (fun w_ hp_=>hY ys p w_ O hJ ⟨hp,aA⟩ hp_.owns (fun k hk=>hp_.fz k hk)) ?_);rintro v22 _ ⟨m2,rfl,aa⟩
   obtain ⟨bb,rfl,Y⟩:∃ bb,v22= .bool bb∧((bb=true∧J (ys++[p]) m2)∨(bb=false∧Jx (ys++[p]) m2)):=by
     rcases aa with ⟨rfl,h⟩|⟨rfl,h⟩
     ·exact ⟨_,rfl,.inl ⟨rfl,h⟩⟩
     ·exact ⟨_,rfl,.inr ⟨rfl,h⟩⟩
   dsimp only [aK,aJ];refine aN rfl rfl rfl rfl (o_not rfl) ?_;refine dM ?_;refine eB (ad _ _ _ ?_);refine r_condB rfl (fun F=>?_) (fun F=>?_)
   ·refine nL ?_;refine r_br ?_;refine r_tr ?_;refine r_tr ?_;refine r_br ?_;have X:Jx (ys++[p]) m2:=(Y.resolve_left (fun h=>by rw [h.1] at F;cases F)).2
    exact r_fin0 [m2,[(bs,blk [.slice (some ⟨bo,0,none⟩) len cap] 25)],[(bn,blk [.int .i64 (bd:Int)] 3)]] Tryz.results170 aC ⟨rfl,m2,_,rfl,.inr ⟨_,rfl,X⟩⟩
   ·have ae:J (ys++[p]) m2:=(Y.resolve_right (fun h=>by rw [h.1] at F;cases F)).2
    refine iX ?_;refine r_bn ?_;refine eB (ac _ _ _ ?_);refine cA ?_;refine aN rfl rfl rfl rfl (aR rfl) ?_;refine aN rfl rfl rfl rfl (aH Tryz.isAgg3 rfl (rdA rfl)) ?_;refine aN rfl rfl rfl rfl (bF rfl rfl) ?_;refine aN rfl rfl rfl rfl (bI rfl) ?_;refine dM ?_;refine eB (lP (p+bd,ys++[p],m2) (by first|omega|(dsimp only;omega)|(simp;omega)) rfl ⟨by rw [List.length_append,List.length_singleton,Nat.succ_mul];omega,aA,ae⟩ ?_ ?_ ?_)
    ·exact aF
    ·exact aF
    ·exact aC
  ·refine lH ?_;refine r_te ?_;refine r_te ?_;refine r_be ?_;exact r_fin0n [O,[(bs,blk [.slice (some ⟨bo,0,none⟩) len cap] 25)],[(bn,blk [.int .i64 (bd:Int)] 3)]] Tryz.results170 aC ⟨rfl,O,_,rfl,.inl ⟨_,⟨aA,rfl⟩,hJ⟩⟩
end Go.Proofs.YthpkelafioikaaaGreat
namespace Go.Proofs.YthpkelafioikaaaGreat.Fly
open Go Go.RowKit
set_option linter.unusedVariables false
set_option linter.unusedSimpArgs false
set_option linter.unusedSectionVars false
def LQ (ds:List Deferred) (Q:Exit→Act→World→Prop):Exit→Act→World→Prop
 | .normal,a,w=>Q .normal { a with defers:=a.defers++ds } w
 |_,_,_=>False
theorem lq_out {ds:List Deferred} {Q:Exit→Act→World→Prop}:¬ LetsOut (nY (LQ ds Q)):=by
 rintro ⟨a,w,h⟩;exact h.elim
theorem put_app (a:Act) (ds:List Deferred) (d:Option Tmp) (v:Value):({ a with defers:=a.defers++ds }:Act).put d v={ a.put d v with defers:=(a.put d v).defers++ds }:=by cases d<;>rfl
section
variable {P:Program} {rd:Option Nat} {ds:List Deferred} {Q:Exit→Act→World→Prop}
theorem op_lift {o:Oper} (hn:nQ o.op=true) {a:Act} {w:World} {O K:Act→World→Prop} (J:∀ U w',O U w'→K { U with defers:=U.defers++ds } w')
  (h:o.wp P a w O (nY (LQ ds Q))):o.wpIn (FW rd) 0 P { a with defers:=a.defers++ds } w K Q:=by
 unfold Oper.wp at h
 unfold Oper.wpIn
 refine ⟨fun _ _=>trivial,?_⟩;rw [Oper.semAt_eq _ _ _ (fun c hc=>by rw [hc] at hn;cases hn),oM]
 generalize (execOp a.eval o).run P w=r at h ⊢
 cases r with
 |halt hh w' =>cases hh<;>simp only [Oper.upon] at h<;>exact h.elim
 |ok x w' =>
  cases x with
  |value v=>show K _ w';rw [put_app];exact J _ _ h
  |skip=>show K _ w';rw [put_app];exact J _ _ h
  |defer d=>
   have h1:O (({ a with defers:=d::a.defers }:Act).put o.dst undef) w' :=h
   have h2:=J _ _ h1
   show K (({ a with defers:=d::(a.defers++ds) }:Act).put o.dst undef) w'
   have e:(({ a with defers:=d::(a.defers++ds) }:Act).put o.dst undef)={ ({ a with defers:=d::a.defers }:Act).put o.dst undef with defers:=(({ a with defers:=d::a.defers }:Act).put o.dst undef).defers++ds }:=by
    cases o.dst<;>rfl
   rw [e];exact h2
  |enter f args=>
   have h1:Calls P f args w' _:=h
   refine ⟨(fun h=>by cases h),?_⟩
   show CallsIn Fence.wide 0 P f args w' _
   refine callsIn_wide.2 (Calls.mono h1 ?_);intro e F he
   cases e with
   |returned v=>show K _ F;rw [put_app];exact J _ _ he
   |panicked ch=>exact he.elim
   |outgrown=>exact (lq_out he).elim
  |row r args=>
   have h1:Rows P r args w' _:=h
   refine ⟨(fun h=>by cases h),fun c cs _=>?_⟩;obtain ⟨v,F,hv,X⟩:=h1 c cs
   refine ⟨v,F,?_,(stepsIn_wide (P:=P)).2 X⟩
   show K _ F;rw [put_app];exact J _ _ hv
  |round l f tmps assign body=>exact h.elim
  |_=>exact h.elim
theorem any_lift {ops:Array Oper} {S:World→Prop} (hn:ops.toList.all (fun o=>nQ o.op)=true):∀ (fuel:Nat) (listed:Array Bool) (a:Act) (w:World),
  wpAnyH P .any ops (nY (LQ ds Q)) S fuel listed a w→wpAnyIn (FW rd) 0 P .any ops Q fuel listed { a with defers:=a.defers++ds } w
 |0,listed,a,w,h=>h
 |fuel+1,listed,a,w,h=>by
  refine ⟨fun e=>h.1 e,fun i hi=>?_⟩;have h2:=h.2 i hi
  unfold wpOp at h2
  unfold wpOpIn
  cases ho:ops[i]? with
  |none=>rw [ho] at h2;exact any_lift hn fuel _ _ _ h2.2
  |some o=>
   rw [ho] at h2
   have F:nQ o.op=true:=by
    have:=List.all_eq_true.1 hn o (by rw [← Array.mem_def];exact Array.mem_of_getElem? ho)
    exact this
   dsimp only at h2 ⊢
   split
   ·rename_i hw
    rw [if_pos hw] at h2
    rcases h2 with h2|h2
    ·exact op_lift F (fun J w' h' =>any_lift hn fuel _ _ _ h'.2) h2
    ·exact (lq_out h2.2).elim
   ·rename_i hw
    rw [if_neg hw] at h2;refine ⟨fun _ _=>trivial,?_⟩;rw [put_app];exact any_lift hn fuel _ _ _ h2.2
end
section
variable {P:Program} {n:Nat} {S:Nat→Prop} {w0:World} {rd:Option Nat} {mk:List Nat} {env:Env} {segs:List Seg} {Q:Exit→Act→World→Prop} {ops:Array Oper} {rest:List Oper} {o:Oper}
theorem r_regionH {id:Nat} {l:List Oper} (base:List Seg) (hm:P.follows .mixedOrders=true) (hn:l.all (fun o=>nQ o.op)=true)
  (h:Wh P n S w0 l.toArray (LQ (coll mk) Q) base l.length (Array.replicate l.length false) env segs):WcR P n S w0 rd mk Q env segs (.region id l.toArray true):=fun a w ha hp=>by
 refine wpIn_region_any hm ?_;have h1:=h { a with defers:=[] } { w with drawn:=w.drawn+1 } ha.base (hp.drew (w.drawn+1) (Nat.le_succ _))
 have h2:=any_lift (rd:=rd) (by simpa using hn) _ _ _ _ h1
 have e:({ ({ a with defers:=[] }:Act) with defers:=({ a with defers:=[] }:Act).defers++coll mk }:Act)=a:=by
  show ({ a with defers:=[]++coll mk }:Act)=a
  rw [List.nil_append,← ha.defers]
 rw [e] at h2
 simpa using h2
theorem r_back (h:WqR n S w0 mk (Q .normal) env segs):Wq n S w0 (LQ (coll mk) Q .normal) env segs:=fun a w ha hp=>by
 refine h { a with defers:=a.defers++coll mk } w ⟨ha.size,?_,ha.get⟩ hp
 show a.defers++coll mk=coll mk
 rw [ha.defers,List.nil_append]
end
end Go.Proofs.YthpkelafioikaaaGreat.Fly
namespace Go.Proofs.YthpkelafioikaaaGreat
open Go Go.RowKit Fly
set_option maxRecDepth 100000
set_option maxHeartbeats 4000000
set_option linter.all false
theorem reps_boolC (n:Nat) (b:Bool):(List.replicate n [Value.bool b]).flatten=f8 (List.replicate n b):=by
 induction n with
 |zero=>rfl
 |succ n ih=>rw [List.replicate_succ,List.flatten_cons,ih];rfl
theorem div_at {q t c b:Nat} (hq:q=c*b) (F:t<b):(q+t) / b=c:=by
 subst hq;rw [Nat.add_comm,Nat.add_mul_div_right _ _ aA,Nat.div_eq_of_lt F,Nat.zero_add]
theorem putTo_add (vs ord:List Int) (b:Nat) (nx:Int) (out:List Int) (y t:Nat):kA vs ord b nx out (y+(t+1))=(kA vs ord b nx out (y+t)).set (putAt vs ord (y+t)) (nx+(((y+t) / b:Nat):Int)):=rfl
theorem ceil_at {m c b:Nat} (hb:0<b) (h1:m≤c*b) (h2:c*b<m+b):(m+b - 1) / b=c:=by
 refine Nat.div_eq_of_lt_le aA ?_;rw [Nat.succ_mul];omega
theorem CutUp_spec (N:Int) (A B:Option Addr) (l:List Arc) (cap:Nat) (L:List Int) (cb:Nat) (bi:Int) (w:World) (hr:Ro (Fr w []) w A (l.flatMap cH)) (hl:l.length≤9223372036854775807) (hN:I64 N) (hok:∀ x∈l,eN x) (hL:Ro (Fr w []) w B (a8 L)) (hm:L.length≤9223372036854775807):
    Meets Tryz.prog 84 [.agg #[.int .i64 N,.slice A l.length cap],.slice B L.length cb,.int .i64 bi] w [] (fun u own' =>∃ (R:List Int) (A' :Option Addr) (c:Nat) (m' :Seg),u= .tuple #[.slice A' R.length c,.int .i64 (spE N l L bi)]∧own' =[m']∧Own 3 1 (.slice A' R.length c) R.length (a8 R) m'∧(spE N l L bi≠0→R=[])∧(spE N l L bi=0→R=cutL l L bi.toNat)):=by
 refine r_enter Tryz.func84 rfl Tryz.ntmps84 rfl Owns.nil ?_;refine dW fun K1 cB=>?_;refine cA ?_;refine fS rfl rfl rfl (Does.toR rfl (cZ rfl rfl fun b3=>?_));refine aN rfl rfl rfl rfl (bI rfl) ?_;refine aN rfl rfl rfl rfl (bI rfl) ?_;refine dM ?_;refine eB (cB _ _ _ ?_);refine dW fun K2 cg=>?_;refine dW fun K3 bR=>?_;refine cA ?_;refine aN rfl rfl rfl rfl (aQ (vs:=[_,_]) Tryz.isAgg24 Tryz.sizeOf24 rfl rfl ⟨(rdA rfl),(rdA rfl),trivial⟩) ?_;refine aN rfl rfl rfl rfl (aR rfl) ?_;refine aN rfl rfl rfl rfl (aR rfl) ?_;refine fS rfl rfl rfl (Does.toR rfl (aW Tryz.call86 rfl (fun w_ hp_=>splook_spec N A B l cap L cb bi w_ (hr.up0 hp_) hl hN hok (hL.up0 hp_) hm) ?_));rintro _ _ ⟨rfl,rfl⟩;dsimp only [aK,aJ];refine aN rfl rfl rfl rfl (bI rfl) ?_;refine dM ?_;refine eB (bR _ _ _ ?_);refine dW fun K4 b6=>?_;refine cA ?_;refine aN rfl rfl rfl rfl (aR rfl) ?_;refine aN rfl rfl rfl rfl (o_neq rfl rfl) ?_;refine dM ?_;refine eB (b6 _ _ _ ?_);refine kM rfl (fun ak=>?_) (fun ak=>?_)
 ·refine dW fun K5 b4=>?_;refine cA ?_;refine aN rfl rfl rfl rfl (aR rfl) ?_;refine aN rfl rfl rfl rfl (bI rfl) ?_;refine aN rfl rfl rfl rfl (bI rfl) ?_;refine dM ?_;refine eB (b4 _ _ _ ?_);refine nL ?_;refine r_tr ?_;have bw:spE N l L bi≠0:=by simpa using ak
  exact lG [[]] Tryz.results84 rfl rfl (show Fly.Sub _ [[]] from aC) ⟨[],none,0,[],rfl,rfl,Own.nil _ _,fun _=>rfl,fun h=>absurd h bw⟩
 ·have hz:spE N l L bi=0:=by simpa using ak
  obtain ⟨n,rfl,cd,bq,hg,hR,dq⟩:=spE_zero hz
  obtain rfl:L.length=n:=(d6 hR).2
  have ah:=e7 hR cd
  obtain ⟨b,rfl⟩:∃ b:Nat,bi=(b:Int):=⟨bi.toNat,aA⟩
  obtain ⟨_,_,a1,_⟩:=cF hg
  refine iX ?_;refine eB (cg _ _ _ ?_);refine dW fun K6 ce=>?_;refine cA ?_;refine aN rfl rfl rfl rfl (aR rfl) ?_;refine fS rfl rfl rfl (Does.toR rfl (aW Tryz.call56 rfl (fun w_ hp_=>oP B L.length (a8 L) cb w_ (hL.up0 hp_) (fun e=>by rw [e] at hL;obtain ⟨_,_,e',_⟩:=hL (fun e=>by have:=a7 L;rw [e] at this;simp at this;omega);cases e') (by rw [a7];omega) (ints_oneG _) aA) ?_));rintro c4 _ ⟨cR,rfl,ai⟩;obtain ⟨bo,co,sp,rfl,rfl⟩:=ai.block aA
  dsimp only [aK,aJ];refine fS rfl rfl rfl (Does.toR rfl (cX Tryz.zeroValue25 rfl fun b9=>?_));refine kW rfl rfl (Does.toR rfl (bQ Tryz.sizeOf25 rfl rfl rfl rfl cG _ rfl ?_));refine dM ?_;refine eB (ce _ _ _ ?_);refine dW fun K7 cf=>?_;refine cA ?_;refine aN rfl rfl rfl rfl (aT eV rfl) ?_;refine aN rfl rfl rfl rfl (aH Tryz.isAgg3 rfl (rdA rfl)) ?_;refine fS rfl rfl rfl (Does.toR rfl (cX Tryz.zeroValue3 rfl fun J=>?_));refine kW rfl rfl (Does.toR rfl (bQ Tryz.sizeOf3 rfl rfl rfl rfl cG _ rfl ?_));refine dM ?_;refine eB (cf _ _ _ ?_);refine dW fun K8 cy=>?_;refine dW fun K9 b8=>?_;refine cA ?_;refine aN rfl rfl rfl rfl (aR rfl) ?_;refine fS rfl rfl rfl (Does.toR rfl (aW Tryz.call88 rfl (fun w_ hp_=>p9 B L cb w_ (hL.up0 hp_) aA aA (fun x hx=>by have:=ah x hx;omega)) ?_));rintro _ _ ⟨bs,rfl,rfl⟩;obtain ⟨M,hM⟩:∃ M:Nat,(fC L+1).toNat=M:=⟨_,rfl⟩
  rw [d3,hM];rw [hM] at ah;have dk:=(ah L[0] (List.getElem_mem aA)).2.2
  dsimp only [aK,aJ];refine aN rfl rfl rfl rfl (iZ bU rfl) ?_;refine aN rfl rfl rfl rfl (aR rfl) ?_;refine dM ?_;refine eB (b8 _ _ _ ?_);refine f9 ?_;refine r_loop (α:=Nat×List Nat) (fun ⟨j,mk⟩=>mk) [1,2,3,9,10,35,36,85] (fun ⟨j,mk⟩=>[(37,.int .i64 (j:Int))]) (fun ⟨j,mk⟩=>[mks mk,[(bo,blk (a8 (eF l L b j).1++sp) 3)],[(J,blk [.int .i64 ((eF l L b j).2)] 3)],[(b9,blk [.slice (some ⟨bo,0,none⟩) L.length co] 25)],[(bs,blk (a8 (szs M L)) 3)],[(b3,blk [.int .i64 (L.length:Int),.slice A l.length cap] 24)]]) (fun ⟨j,mk⟩=>j≤M) (fun ⟨j,mk⟩=>M - j) (0,[]) rfl ?_ ?_ ?_ ?_
  ·exact aF
  ·exact aC
  ·exact Nat.zero_le _
  ·rintro ⟨j,mk⟩ cp;dsimp only at cp ⊢;refine dW fun ds bh=>?_;refine cA ?_;refine aN rfl rfl rfl rfl (o_lss rfl rfl) ?_;refine dM ?_;refine eB (bh _ _ _ ?_);refine dW fun ea bp=>?_;refine kM rfl (fun bY=>?_) (fun bY=>?_)
   ·have hj:j<M:=aA
    have cC:=cnt_le L j
    have dp:=cutTo_next (l:=l) (b:=b) bq a1 aA j
    refine iX ?_;refine eB (bp _ _ _ ?_);refine dW fun dl ab=>?_;refine f9 ?_;refine dW fun dh au=>?_;refine cA ?_;refine aN rfl rfl rfl rfl (aR rfl) ?_;refine aN rfl rfl rfl rfl (aM bU rfl rfl (j)) ?_;refine aN rfl rfl rfl rfl (aH Tryz.isAgg3 rfl (rdA (v:= .int .i64 (cnt L j:Int)) (by rw [d9 (by rw [gO];exact hj),kU hj]))) ?_;refine aN rfl rfl rfl rfl (bI rfl) ?_;refine aN rfl rfl rfl rfl (bI rfl) ?_;refine dM ?_;refine eB (au _ _ _ ?_);refine dW fun c3 bD=>?_;refine dW fun c6 bK=>?_;refine cA ?_;refine aN rfl rfl rfl rfl (aR rfl) ?_;refine aN rfl rfl rfl rfl (aR rfl) ?_;refine aN rfl rfl rfl rfl (o_leq rfl rfl) ?_;refine dM ?_;refine eB (bK _ _ _ ?_);refine kM rfl (fun cm=>?_) (fun cm=>?_)
    ·refine lH ?_;refine r_te ?_;refine r_be ?_;refine eB (ab _ _ _ ?_);refine cA ?_;refine aN rfl rfl rfl rfl (bF rfl rfl) ?_;refine aN rfl rfl rfl rfl (aR rfl) ?_;refine dM ?_;have ad:eF l L b (j+1)=eF l L b j:=if_pos aA
     rw [← ad];refine eB (lP (j+1,mk) (by first|omega|(dsimp only;omega)|(simp;omega)) rfl (by show j+1≤M;omega) ?_ ?_ ?_)
     ·exact aF
     ·exact aF
     ·exact aC
    ·have Z:=cut_ok (l:=l) bq a1 (show 0<cnt L j by omega)
     have cz:0<(dV l L j).length:=List.length_pos_of_mem (Z.all 0 (by have:=Z.has;omega))
     have cI:=Z.few
     have cE:=Z.olen
     refine iX ?_;refine eB (bD _ _ _ ?_);refine dW fun db az=>?_;refine cA ?_;refine aN rfl rfl rfl rfl (aT eV rfl) ?_;refine aN rfl rfl rfl rfl (aH Tryz.isAgg3 rfl (rdA rfl)) ?_;refine fS rfl rfl rfl (Does.toR rfl (e6 el37 rfl rfl L.length rfl aA aA (f8 (kpTo L j 0)) (by rw [kpTo_zero];exact reps_boolC L.length false) fun aj=>?_));refine aN rfl rfl rfl rfl (bI rfl) ?_;refine dM ?_;refine eB (az _ _ _ ?_);refine dW fun dw be=>?_;refine dW fun cK bC=>?_;refine cA ?_;refine aN rfl rfl rfl rfl (aR rfl) ?_;refine aN rfl rfl rfl rfl (iZ n4 rfl) ?_;refine aN rfl rfl rfl rfl (aR rfl) ?_;refine dM ?_;refine eB (bC _ _ _ ?_);refine f9 ?_;refine r_loop (α:=Nat) (fun k=>mk) [1,2,3,9,10,11,13,20,35,36,37,49,85] (fun k=>[(50,.int .i64 (k:Int))]) (fun k=>[mks mk,[(aj,blk (f8 (kpTo L j k)) 4)],[(bo,blk (a8 (eF l L b j).1++sp) 3)],[(J,blk [.int .i64 ((eF l L b j).2)] 3)],[(b9,blk [.slice (some ⟨bo,0,none⟩) L.length co] 25)],[(bs,blk (a8 (szs M L)) 3)],[(b3,blk [.int .i64 (L.length:Int),.slice A l.length cap] 24)]]) (fun k=>k≤L.length) (fun k=>L.length - k) (0) rfl ?_ ?_ ?_ ?_
     ·exact aF
     ·exact aC
     ·exact Nat.zero_le _
     ·rintro k ed;refine r_envC (e:=[(50,_),(1,_),(2,_),(3,_),(9,_),(10,_),(11,_),(13,_),(35,_),(36,_),(37,_),(49,_)]) aF ?_;refine dW fun de ay=>?_;refine cA ?_;refine aN rfl rfl rfl rfl (o_lss rfl rfl) ?_;refine dM ?_;refine eB (ay _ _ _ ?_);refine dW fun cP al=>?_;refine kM rfl (fun b5=>?_) (fun b5=>?_)
      ·have hk:k<L.length:=aA
       obtain ⟨bb,ob,rfl,cr,cq⟩:=hL (fun e=>by have:=a7 L;rw [e] at this;simp at this;omega)
       refine iX ?_;refine eB (al _ _ _ ?_);refine dW fun dj am=>?_;refine f9 ?_;refine dW fun c0 aq=>?_;refine cA ?_;refine aN rfl rfl rfl rfl (aR rfl) ?_;refine aN rfl rfl rfl rfl (bI rfl) ?_;refine dM ?_;refine eB (aq _ _ _ ?_);refine cA ?_;refine aN rfl rfl rfl rfl (aR rfl) ?_;refine aN rfl rfl rfl rfl (aR rfl) ?_;refine aN rfl rfl rfl rfl (aR rfl) ?_;refine aN rfl rfl rfl rfl (aR rfl) ?_;refine aN rfl rfl rfl rfl (aM bU rfl rfl (ob+k)) ?_;refine aN rfl rfl rfl rfl (aH Tryz.isAgg3 rfl (eC (enc:=(.int .i64 ·)) cr cq hk)) ?_;refine aN rfl rfl rfl rfl (aR rfl) ?_;refine aN rfl rfl rfl rfl (o_eql rfl rfl) ?_;refine aN rfl rfl rfl rfl (aM n4 rfl rfl (k)) ?_;refine kW rfl rfl (Does.toR rfl (bQ Tryz.sizeOf4 rfl rfl rfl rfl (by simp [kpTo_len];omega) (f8 (kpTo L j (k+1))) (by rw [boolsG_set,kpTo_next hk]) ?_));refine dM ?_;refine r_bn ?_;refine eB (am _ _ _ ?_);refine cA ?_;refine aN rfl rfl rfl rfl (bF rfl rfl) ?_;refine aN rfl rfl rfl rfl (aR rfl) ?_;refine dM ?_;refine eB (lP (k+1) (by first|omega|(dsimp only;omega)|(simp;omega)) rfl aA ?_ ?_ ?_)
       ·exact aF
       ·exact aF
       ·exact aC
      ·refine lH ?_;refine r_te ?_;refine r_te ?_;refine r_be ?_;refine eB (be _ _ _ ?_);refine dW fun dc ba=>?_;obtain rfl:k=L.length:=aA
       rw [kpTo_all];refine cA ?_;refine aN rfl rfl rfl rfl (aQ (vs:=[_,_]) Tryz.isAgg24 Tryz.sizeOf24 rfl rfl ⟨(rdA rfl),(rdA rfl),trivial⟩) ?_;refine aN rfl rfl rfl rfl (aR rfl) ?_;refine fS rfl rfl rfl (Does.toR rfl (aW Tryz.call136 rfl (fun w_ hp_=>(by have h:=Induced_spec (L.length:Int) A l cap (some ⟨aj,0,none⟩) (iG L j) L.length w_ (hr.up0 hp_) (fK (b:=aj) hp_ (cs:=(iG L j).map .bool) (fun j v hj=>hj)) hl hN hok;rw [lI] at h;exact h)) ?_));rintro v66 cw hI
       unfold nF at hI
       rw [if_neg (by rw [hg];simp),if_neg (by rw [lI];simp),if_neg Z.has] at hI;obtain ⟨sa,sv,sl,ma,mv,ml,rfl,rfl,bB,cj,b7⟩:=hI
       obtain ⟨Aa,ca,rfl,cW⟩:=bB.val
       obtain ⟨Y,cv,X,rfl,rfl⟩:=cj.block (Nat.pos_of_ne_zero Z.has)
       obtain ⟨Al,cl,rfl,ae⟩:=b7.val
       have ee:=sub_len (iG L j) l
       dsimp only [aK,aJ];refine aN rfl rfl rfl rfl (aR rfl) ?_;refine aN rfl rfl rfl rfl (eU rfl rfl) ?_;refine aN rfl rfl rfl rfl (eU rfl rfl) ?_;refine aN rfl rfl rfl rfl (eU rfl rfl) ?_;refine aN rfl rfl rfl rfl (eU rfl rfl) ?_;refine fS rfl rfl rfl (Does.toR rfl (cX Tryz.zeroValue24 rfl fun cY=>?_));refine fS rfl rfl rfl (Does.toR rfl (cX Tryz.zeroValue25 rfl fun O=>?_));refine kW rfl rfl (Does.toR rfl (bS Tryz.sizeOf24 rfl rfl rfl rfl cG [.int .i64 ((eM L j).length:Int),.slice Aa (fL (iG L j) l).length ca] rfl ?_));refine kW rfl rfl (Does.toR rfl (bQ Tryz.sizeOf25 rfl rfl rfl rfl cG _ rfl ?_));refine aN rfl rfl rfl rfl (bI rfl) ?_;refine aN rfl rfl rfl rfl (bI rfl) ?_;refine dM ?_;refine eB (ba _ _ _ ?_);refine dW fun cM aw=>?_;refine dW fun dz an=>?_;refine cA ?_;refine aN rfl rfl rfl rfl (aR rfl) ?_;refine aN rfl rfl rfl rfl (o_neq rfl rfl) ?_;refine dM ?_;refine eB (an _ _ _ ?_);refine r_condN rfl aO ?_;refine iX ?_;refine eB (aw _ _ _ ?_);refine dW fun dm av=>?_;refine cA ?_;refine aN rfl rfl rfl rfl (aQ (vs:=[_,_]) Tryz.isAgg24 Tryz.sizeOf24 rfl rfl ⟨(rdA rfl),(rdA rfl),trivial⟩) ?_;refine fS rfl rfl rfl (Does.toR rfl (aW Tryz.call137 rfl (fun w_ hp_=>(by have h:=Order_spec ((eM L j).length:Int) Aa (fL (iG L j) l) ca w_ (fD (bB.seen hp_)) aA ⟨aA,aA⟩ (sub_ok (by rw [lI];omega) hok);rw [Z.ord] at h;exact h)) ?_));rintro _ _ ⟨cT,mo,rfl,rfl,ag⟩;dsimp only at ag ⊢;obtain ⟨F,aa,U,rfl,rfl⟩:=ag.block cz
       obtain ⟨_,_,ck,cD⟩:=ag.val
       cases ck
       dsimp only [aK,aJ];refine aN rfl rfl rfl rfl (aR rfl) ?_;refine aN rfl rfl rfl rfl (eU rfl rfl) ?_;refine aN rfl rfl rfl rfl (eU rfl rfl) ?_;refine aN rfl rfl rfl rfl (bI rfl) ?_;refine aN rfl rfl rfl rfl (bI rfl) ?_;refine dM ?_;refine eB (av _ _ _ ?_);refine dW fun ec bM=>?_;refine dW fun df bf=>?_;refine cA ?_;refine aN rfl rfl rfl rfl (aR rfl) ?_;refine aN rfl rfl rfl rfl (o_neq rfl rfl) ?_;refine dM ?_;refine eB (bf _ _ _ ?_);refine r_condN rfl aO ?_;refine iX ?_;refine eB (bM _ _ _ ?_);refine dW fun dd bj=>?_;refine cA ?_;refine aN rfl rfl rfl rfl (aR rfl) ?_;refine aN rfl rfl rfl rfl (aR rfl) ?_;refine fS rfl rfl rfl (Does.toR rfl (aW Tryz.call138 rfl (fun w_ hp_=>Chunk_spec F (dV l L j).length aa b w_ aA) ?_));rintro _ _ ⟨q1,q2,rfl,rfl⟩;dsimp only [aK,aJ];refine dM ?_;refine eB (bj _ _ _ ?_);refine f9 ?_;refine r_range (p:=85) (lb:=[.pointer (some ⟨q1,0,none⟩),.pointer (some ⟨q2,0,none⟩)]) rfl Tryz.call170 rfl [[(bo,blk (a8 (eF l L b j).1++sp) 3)],[(J,blk [.int .i64 ((eF l L b j).2)] 3)],[(b9,blk [.slice (some ⟨bo,0,none⟩) L.length co] 25)],[(O,blk [.slice (some ⟨Y,0,none⟩) (eM L j).length cv] 25)],[(Y,blk (a8 (eM L j)++X) 3)],[(F,blk (a8 (dV l L j)++U) 3)]] [[(q1,blk [.slice (some ⟨F,0,none⟩) (dV l L j).length aa] 25)],[(q2,blk [.int .i64 (b:Int)] 3)]] [mks mk,[(bs,blk (a8 (szs M L)) 3)],[(b3,blk [.int .i64 (L.length:Int),.slice A l.length cap] 24)]] (by repeat (first|exact Sub.refl|exact aP|refine aL ?_|refine bV rfl ?_|refine fY ?_)) (ckEnc F (dV l L j).length b) (may:=ckMay (dV l L j).length b) (Fin:=ckFin q1 q2 F (dV l L j).length aa b) (Stp:=ckStp q1 q2 F (dV l L j).length aa b) (fun bt cn hp_=>Chunk1_iter q1 q2 F (dV l L j).length aa b cn bt ⟨aA,aA⟩ aA ⟨aA,aA⟩) (fun ys m=>ys.length*b<(dV l L j).length+b∧∃ q c:Nat,q=min (ys.length*b) (dV l L j).length∧c=ys.length∧m=[(bo,blk (a8 (kA (eM L j) (dV l L j) b (eF l L b j).2 (eF l L b j).1 (q))++sp) 3),(J,blk [.int .i64 ((eF l L b j).2+(c:Int))] 3),(b9,blk [.slice (some ⟨bo,0,none⟩) L.length co] 25),(O,blk [.slice (some ⟨Y,0,none⟩) (eM L j).length cv] 25),(Y,blk (a8 (eM L j)++X) 3),(F,blk (a8 (dV l L j)++U) 3)]) (fun _ _=>False) (.ret) (⟨by simp;omega,0,0,aO,rfl,by simp [kA]⟩) ?_ ?_ ?_
       ·intro bt l_ d_ ys y m_ hI ax c2 K_ bg;obtain ⟨hlt,q,c,hq,rfl,rfl⟩:=hI
        obtain ⟨hy,di⟩:=ax
        have dT:ys.length≤ys.length*b:=Nat.le_mul_of_pos_right _ aA
        obtain rfl:y=q:=aA
        refine r_subC (Sub.op3 (parts:=[[(bo,blk (a8 (kA (eM L j) (dV l L j) b (eF l L b j).2 (eF l L b j).1 (y))++sp) 3)],[(J,blk [.int .i64 ((eF l L b j).2+(ys.length:Int))] 3)],[(b9,blk [.slice (some ⟨bo,0,none⟩) L.length co] 25)],[(O,blk [.slice (some ⟨Y,0,none⟩) (eM L j).length cv] 25)],[(Y,blk (a8 (eM L j)++X) 3)],[(F,blk (a8 (dV l L j)++U) 3)]]) aO Sub.refl) ?_;dsimp only [aK,aJ];refine cA ?_;refine aN rfl rfl rfl rfl (bI rfl) ?_;refine dM ?_;refine eB (bg _ _ ?_);clear bg;refine f9 ?_;refine dW fun c5 bu=>?_;refine dW fun dn ap=>?_;refine cA ?_;refine aN rfl rfl rfl rfl (aR rfl) ?_;refine aN rfl rfl rfl rfl (iZ bU rfl) ?_;refine aN rfl rfl rfl rfl (aR rfl) ?_;refine dM ?_;refine eB (ap _ _ _ ?_);refine f9 ?_;refine r_loop (α:=Nat) (fun t=>[]) [1,2,3,9,10,16,20,35,36,37,85,86,87] (fun t=>[(88,.int .i64 (t:Int))]) (fun t=>[[(l_,.loop (d_.rc .busy none))],[(d_.D,.deferred (some []))],[(bo,blk (a8 (kA (eM L j) (dV l L j) b (eF l L b j).2 (eF l L b j).1 (y+t))++sp) 3)],[(J,blk [.int .i64 ((eF l L b j).2+(ys.length:Int))] 3)],[(b9,blk [.slice (some ⟨bo,0,none⟩) L.length co] 25)],[(O,blk [.slice (some ⟨Y,0,none⟩) (eM L j).length cv] 25)],[(Y,blk (a8 (eM L j)++X) 3)],[(F,blk (a8 (dV l L j)++U) 3)]]) (fun t=>t≤min b ((dV l L j).length - y)) (fun t=>min b ((dV l L j).length - y) - t) (0) rfl ?_ ?_ ?_ ?_
        ·exact aF
        ·exact aC
        ·exact Nat.zero_le _
        ·rintro t da;refine r_envC (e:=[(88,_),(1,_),(2,_),(3,_),(9,_),(10,_),(16,_),(20,_),(35,_),(36,_),(37,_),(85,_),(86,_),(87,_)]) aF ?_;refine dW fun c8 ar=>?_;refine cA ?_;refine aN rfl rfl rfl rfl (o_lss rfl rfl) ?_;refine dM ?_;refine eB (ar _ _ _ ?_);refine dW fun du bE=>?_;refine kM rfl (fun b2=>?_) (fun b2=>?_)
         ·have ht:t<min b ((dV l L j).length - y):=aA
          obtain ⟨q',ci,ct,u,hu,⟨dr,_⟩,bL,_⟩:=Z.at (i:=y+t) aA
          have bk:=div_at (q:=y) (t:=t) (b:=b) hy aA
          have b1:(kA (eM L j) (dV l L j) b (eF l L b j).2 (eF l L b j).1 (y+t)).set u ((eF l L b j).2+(ys.length:Int))=(kA (eM L j) (dV l L j) b (eF l L b j).2 (eF l L b j).1 (y+(t+1))):=by rw [putTo_add,bL,bk]
          refine iX ?_;refine eB (bE _ _ _ ?_);refine dW fun c9 a2=>?_;refine f9 ?_;refine dW fun eb ao=>?_;refine cA ?_;refine aN rfl rfl rfl rfl (aM bU rfl rfl (y+t)) ?_;refine aN rfl rfl rfl rfl (aH Tryz.isAgg3 rfl (rdA (v:= .int .i64 (q' :Int)) (d7 (by rw [d9 aA,ci])))) ?_;refine aN rfl rfl rfl rfl (bI rfl) ?_;refine dM ?_;refine eB (ao _ _ _ ?_);refine r_regionH [[(l_,.loop (d_.rc .busy none))],[(d_.D,.deferred (some []))],[(J,blk [.int .i64 ((eF l L b j).2+(ys.length:Int))] 3)],[(b9,blk [.slice (some ⟨bo,0,none⟩) L.length co] 25)],[(O,blk [.slice (some ⟨Y,0,none⟩) (eM L j).length cv] 25)],[(Y,blk (a8 (eM L j)++X) 3)],[(F,blk (a8 (dV l L j)++U) 3)]] rfl aU ?_;refine f_T 0 rfl (aH Tryz.isAgg25 rfl (rdA rfl))<|f_T 1 rfl (aH Tryz.isAgg25 rfl (rdA rfl))<|f_T 2 rfl (aR rfl)<|f_T 3 rfl (aM bU rfl rfl (q'))<|f_T 4 rfl (aH Tryz.isAgg3 rfl (rdA (v:= .int .i64 (u:Int)) (d7 (by rw [d9 ct,hu])))) ?_
          refine f_T 5 rfl (aH Tryz.isAgg3 rfl (rdA rfl))<|f_T 6 rfl (aM bU rfl rfl (u))<|fX 7 rfl (bQ Tryz.sizeOf3 rfl rfl rfl rfl (by rw [List.length_append,a7,putTo_len,j3];omega) (a8 (kA (eM L j) (dV l L j) b (eF l L b j).2 (eF l L b j).1 (y+(t+1)))++sp) (by rw [← b1,List.set_append_left _ _ (by rw [a7,putTo_len,j3];omega)];simp [a8,List.map_set]) ⟨aC,?_⟩)
          refine cO aU ?_;refine r_back ?_;refine r_bn ?_;refine eB (a2 _ _ _ ?_);refine cA ?_;refine aN rfl rfl rfl rfl (bF rfl rfl) ?_;refine aN rfl rfl rfl rfl (aR rfl) ?_;refine dM ?_;refine eB (lP (t+1) (by first|omega|(dsimp only;omega)|(simp;omega)) rfl aA ?_ ?_ ?_)
          ·exact aF
          ·exact aF
          ·exact aC
         ·refine lH ?_;refine r_te ?_;refine r_te ?_;refine r_be ?_;refine eB (bu _ _ _ ?_);refine cA ?_;refine aN rfl rfl rfl rfl (aH Tryz.isAgg3 rfl (rdA rfl)) ?_;refine aN rfl rfl rfl rfl (bF rfl rfl) ?_;refine kW rfl rfl (Does.toR rfl (bQ Tryz.sizeOf3 rfl rfl rfl rfl cG _ rfl ?_));refine dM ?_;refine r_bn ?_;exact qE (m' :=[(bo,blk (a8 (kA (eM L j) (dV l L j) b (eF l L b j).2 (eF l L b j).1 (y+t))++sp) 3),(J,blk [.int .i64 ((eF l L b j).2+(ys.length:Int)+1)] 3),(b9,blk [.slice (some ⟨bo,0,none⟩) L.length co] 25),(O,blk [.slice (some ⟨Y,0,none⟩) (eM L j).length cv] 25),(Y,blk (a8 (eM L j)++X) 3),(F,blk (a8 (dV l L j)++U) 3)]) (Sub.reg (out:=[[(l_,.loop (d_.rc .busy none))],[(d_.D,.deferred (some []))],[(bo,blk (a8 (kA (eM L j) (dV l L j) b (eF l L b j).2 (eF l L b j).1 (y+t))++sp) 3)],[(J,blk [.int .i64 ((eF l L b j).2+(ys.length:Int)+1)] 3)],[(b9,blk [.slice (some ⟨bo,0,none⟩) L.length co] 25)],[(O,blk [.slice (some ⟨Y,0,none⟩) (eM L j).length cv] 25)],[(Y,blk (a8 (eM L j)++X) 3)],[(F,blk (a8 (dV l L j)++U) 3)]]) aC aO) ⟨by rw [List.length_append,List.length_singleton,Nat.succ_mul];omega,y+t,ys.length+1,by rw [List.length_append,List.length_singleton,Nat.succ_mul];omega,aO,by rw [show (eF l L b j).2+((ys.length+1:Nat):Int)=(eF l L b j).2+(ys.length:Int)+1 by omega]⟩
       ·intro D_ ys m_ o_ hF hI;obtain ⟨hlt,q,c,hq,rfl,cu⟩:=hI
        obtain ⟨bW,rfl⟩:=hF
        obtain rfl:q=(dV l L j).length:=aA
        have ac:eF l L b (j+1)=((kA (eM L j) (dV l L j) b (eF l L b j).2 (eF l L b j).1 ((dV l L j).length)),(eF l L b j).2+((((dV l L j).length+b - 1) / b:Nat):Int)):=if_neg aA
        rw [ceil_at aA bW hlt] at ac;have hm2:m_=[(bo,blk (a8 (eF l L b (j+1)).1++sp) 3),(J,blk [.int .i64 ((eF l L b (j+1)).2)] 3),(b9,blk [.slice (some ⟨bo,0,none⟩) L.length co] 25),(O,blk [.slice (some ⟨Y,0,none⟩) (eM L j).length cv] 25),(Y,blk (a8 (eM L j)++X) 3),(F,blk (a8 (dV l L j)++U) 3)]:=by rw [cu,ac]
        subst hm2;refine r_subQ (Sub.reg (out:=[[(D_,.deferred (some []))],mks mk,[(bo,blk (a8 (eF l L b (j+1)).1++sp) 3)],[(J,blk [.int .i64 ((eF l L b (j+1)).2)] 3)],[(b9,blk [.slice (some ⟨bo,0,none⟩) L.length co] 25)],[(bs,blk (a8 (szs M L)) 3)],[(b3,blk [.int .i64 (L.length:Int),.slice A l.length cap] 24)]]) (out' :=[mks (D_::mk),[(bo,blk (a8 (eF l L b (j+1)).1++sp) 3)],[(J,blk [.int .i64 ((eF l L b (j+1)).2)] 3)],[(b9,blk [.slice (some ⟨bo,0,none⟩) L.length co] 25)],[(bs,blk (a8 (szs M L)) 3)],[(b3,blk [.int .i64 (L.length:Int),.slice A l.length cap] 24)]]) (Sub.op2 (parts:=[[(bo,blk (a8 (eF l L b (j+1)).1++sp) 3)],[(J,blk [.int .i64 ((eF l L b (j+1)).2)] 3)],[(b9,blk [.slice (some ⟨bo,0,none⟩) L.length co] 25)],[(O,blk [.slice (some ⟨Y,0,none⟩) (eM L j).length cv] 25)],[(Y,blk (a8 (eM L j)++X) 3)],[(F,blk (a8 (dV l L j)++U) 3)]]) aO (by dsimp only [aK,aJ];repeat first|exact aP|refine aL ?_|refine bV rfl ?_|refine fY ?_)) (by simp [mks])) ?_;refine r_bn ?_;refine r_bn ?_;refine eB (ab _ _ _ ?_);refine cA ?_;refine aN rfl rfl rfl rfl (bF rfl rfl) ?_;refine aN rfl rfl rfl rfl (aR rfl) ?_;refine dM ?_;refine eB (lP (j+1,D_::mk) (by first|omega|(dsimp only;omega)|(simp;omega)) rfl (by show j+1≤M;omega) ?_ ?_ ?_)
        ·exact aF
        ·exact aF
        ·exact aC
       ·intro D_ ys m_ o_ hF hI;exact hI.elim
   ·obtain rfl:M=j:=aA
    refine lH ?_;refine r_te ?_;refine r_te ?_;refine r_be ?_;refine eB (cy _ _ _ ?_);refine dW fun dt bc=>?_;refine cA ?_;refine aN rfl rfl rfl rfl (aH Tryz.isAgg25 rfl (rdA rfl)) ?_;refine fS rfl rfl rfl (Does.toR rfl (d5 [[(bo,blk (a8 (eF l L b M).1++sp) 3)]] _ Tryz.call93 rfl (by repeat (first|exact Sub.refl|refine aL ?_)) (fun w_ hp_=>(by have h:=tidy_spec bo co (eF l L b M).1 sp w_ (by rw [j3];omega) (by rw [j3];omega) (pG ai (j3 l L b M)) hp_.owns;rw [j3] at h;exact h)) ?_));rintro _ _ ⟨rfl,rfl,cJ⟩;dsimp only [aK,aJ];refine dM ?_;refine eB (bc _ _ _ ?_);refine dW fun c1 br=>?_;refine cA ?_;refine aN rfl rfl rfl rfl (aH Tryz.isAgg25 rfl (rdA rfl)) ?_;refine aN rfl rfl rfl rfl (bI rfl) ?_;refine aN rfl rfl rfl rfl (bI rfl) ?_;refine dM ?_;refine eB (br _ _ _ ?_);refine nL ?_;have ae:(cutL l L b).length=L.length:=by unfold cutL;rw [gI,j3]
    exact lG [[(bo,blk (a8 (cutL l L b)++sp) 3)]] Tryz.results84 rfl rfl (by rw [cutL,hM];repeat first|exact aP|refine aL ?_|refine bV rfl ?_|refine fY ?_) ⟨cutL l L b,some ⟨bo,0,none⟩,co,_,by rw [ae,hz],rfl,(by have:=pG (L2:=cutL l L b) ai ae;exact this),fun h=>absurd hz h,fun _=>rfl⟩
theorem last_row {E:TypeId} {F:List (List Int)} {vs:List Value} {ms:List Seg} (h:RowsI E F vs ms) {v:Value} (U:0<F.length) (hv:vs.getLast? =some v):∃ A c,v= .slice A (F.getD (F.length - 1) []).length c∧(0<(F.getD (F.length - 1) []).length→∃ J sp,A=some ⟨J,0,none⟩∧(J,blk (a8 (F.getD (F.length - 1) [])++sp) E)∈ms.flatten):=by
 have O:=h.lv
 have hi:F.length - 1<F.length:=aA
 have e1:F.getD (F.length - 1) []=F[F.length - 1]:=by simp [List.getD_eq_getElem?_getD,hi]
 have e2 : v = vs[F.length - 1]'aA := by
  rw [List.getLast?_eq_getElem?,O,List.getElem?_eq_getElem aA] at hv;exact (Option.some.inj hv).symm
 have ho:=h.own _ hi
 rw [← e2,← e1] at ho;obtain ⟨A,c,rfl,_⟩:=ho.val
 refine ⟨A,c,rfl,fun hl=>?_⟩;obtain ⟨J,sp,rfl,hm⟩:=ho.at_ hl
 exact ⟨J,sp,rfl,List.mem_flatten.2 ⟨_,List.getElem_mem (by rw [h.lm];exact hi),by rw [hm];simp⟩⟩
theorem ro_in {S:Nat→Prop} {w0 w:World} {segs O:List Seg} {G:Seg} {b:Nat} {cs sp:List Value} {E:TypeId} (hp:Hp S w0 segs.flatten w) [p3:Pick segs G O] (hm:(b,blk (cs++sp) E)∈G):Ro (Fr w []) w (some ⟨b,0,none⟩) cs:=fun J=>by
 have F:(b,blk (cs++sp) E)∈segs.flatten:=p3.perm.mem_iff.2 (List.mem_append_left _ hm)
 refine ⟨b,0,rfl,⟨hp.key_lt F,aO⟩,fun j v hj=>?_⟩;rw [hp.cell F];simpa using d7 hj
theorem nO {ms:List Seg} {m:Seg}:(m++ms.flatten).Perm (ms++[m]).flatten:=by
 rw [List.flatten_append];simpa using List.perm_append_comm
theorem fE_zeroM {n:Nat} {l:List Arc}:∀ {M:List Pr},(∀ p∈M,p∈prs n l)→fE (n:Int) M=0
 |[],_=>rfl
 |p::r,h=>by
  have h1:=jD (h p aO)
  have h2:p.1<p.2:=by
   have:=h p aO
   unfold prs at this
   obtain ⟨_,h2⟩:=List.mem_filter.1 this
   obtain ⟨a,ha,hb⟩:=List.any_eq_true.1 h2
   simp only [Bool.and_eq_true,decide_eq_true_eq] at hb;obtain ⟨h3,rfl⟩:=hb
   unfold nN;simp only;omega
  unfold fE
  rw [if_neg aA,if_neg aA];exact fE_zeroM fun q hq=>h q (by simp [hq])
theorem blw_nn {n:Nat} {l:List Arc} {bs cs:List Int} {mv:Int} (F:PlOk n l bs cs mv):∀ {k:Nat},k<bs.length→0≤m9 bs k
 |0,_=>Int.le_refl _
 |k+1,h=>by
  have h1:=F.bnd k aA
  have h2:=blw_nn F (k:=k) aA
  show 0≤bs.getD k 0
  omega
theorem planned1_spec (N:Int) (A:Option Addr) (len cap b:Nat) (i:Int) (w:World) (h2:Ro (Fr w []) w (some ⟨b,0,none⟩) [.int .i64 N,.slice A len cap]):
    Meets Tryz.prog 81 ([.int .i64 i]++[.pointer (some ⟨b,0,none⟩)]) w [] (fun u m=>u= .bool (offV N i)∧m=[]):=by
 obtain ⟨b',o',e',J,F⟩:=h2 aO
 obtain ⟨rfl,rfl⟩:b=b'∧0=o' :=by cases e';exact ⟨rfl,rfl⟩
 refine bG Tryz.func81 rfl Tryz.ntmps81 rfl Owns.nil<|aG fun kh1=>aB 1 rfl<|aD kh1<|aG fun kh2=>aB 3 rfl<|eA 6 rfl (fun g6=>?_) (fun g6=>?_)
 ·refine aB 6 rfl<|aD kh2<|aZ ?_
  exact bO [] Tryz.results81 rfl aP ⟨by unfold offV;rw [decide_eq_true (.inl g6)],rfl⟩
 ·refine aB 1 rfl<|eI rfl rfl (aT eV rfl)<|eI rfl rfl (aH Tryz.isAgg3 rfl (rdS J (F 0 _ rfl)))<|aB 3 rfl<|aD kh2<|aZ ?_
  exact bO [] Tryz.results81 rfl aP ⟨by unfold offV;congr 1;apply decide_eq_decide.2;omega,rfl⟩
theorem planned_spec (N:Int) (A:Option Addr) (l:List Arc) (cap:Nat) (B:Option Addr) (bs:List Int) (bc:Nat) (C:Option Addr) (cs:List Int) (cc:Nat) (mv:Int) (w:World) (hr:Ro (Fr w []) w A (l.flatMap cH)) (hl:l.length≤9223372036854775807) (hN:I64 N) (hok:∀ x∈l,eN x) (hB:Ro (Fr w []) w B (a8 bs)) (ai:bs.length≤9223372036854775807) (hC:Ro (Fr w []) w C (a8 cs)) (ac:cs.length≤9223372036854775807):
    Meets Tryz.prog 54 [.agg #[.int .i64 N,.slice A l.length cap],.slice B bs.length bc,.slice C cs.length cc,.int .i64 mv] w [] (fun u m=>u= .int .i64 (plE N l bs cs mv)∧m=[]):=by
 refine bG Tryz.func54 rfl Tryz.ntmps54 rfl Owns.nil<|aG fun kh1=>f_S (cZ rfl rfl fun b4=>?_)
 refine aB 1 rfl<|aD kh1<|aV fun kh2=>aG fun kh3=>f_Q (aQ (vs:=[_,_]) Tryz.isAgg24 Tryz.sizeOf24 rfl rfl ⟨(rdA rfl),(rdA rfl),trivial⟩) ?_
 refine f_S (aW Tryz.call20 rfl (fun w_ J=>gF N A l cap w_ (hr.up0 J) hl hN hok) ?_);rintro _ _ ⟨rfl,rfl⟩;dsimp only [aK,aJ];refine aB 5 rfl<|aD kh3<|aG fun kh4=>aB 2 rfl<|aD kh4<|aX rfl (fun c20=>?_) (fun c20=>?_)
 ·refine aG fun ae=>aB 2 rfl<|aD ae<|aZ<|dA ?_
  have e:plE N l bs cs mv=(cL N l).2:=by unfold plE;rw [if_pos (by simpa using c20)]
  exact bO [] Tryz.results54 rfl aC ⟨by rw [e],rfl⟩
 ·have hg:(cL N l).2=0:=by simpa using c20
  refine bZ kh2<|aV fun kh6=>aG fun kh7=>aB 1 rfl<|dY bU rfl<|aB 2 rfl<|eA 25 rfl (fun g25=>?_) (fun g25=>?_)
  ·refine aB 4 rfl<|aD kh7<|eW rfl<|aG fun kh8=>aB 1 rfl<|aD kh8<|aZ<|dA ?_
   have e:plE N l bs cs mv=111:=by unfold plE;rw [if_neg (by rw [hg];simp),if_pos aA]
   exact bO [] Tryz.results54 rfl aC ⟨by rw [e],rfl⟩
  ·refine aB 1 rfl<|eI rfl rfl (iZ bU rfl)<|aB 2 rfl<|aD kh7<|aX rfl (fun c29=>?_) (fun c29=>?_)
   ·refine aG fun ad=>aB 1 rfl<|aD ad<|aZ<|dA ?_
    have e:plE N l bs cs mv=111:=by unfold plE;rw [if_neg (by rw [hg];simp),if_pos aA]
    exact bO [] Tryz.results54 rfl aC ⟨by rw [e],rfl⟩
   ·refine bZ kh6<|aG fun kh10=>aB 1 rfl<|aD kh10<|aV fun kh11=>aG fun U=>aB 1 rfl<|dY bU rfl<|aB 1 rfl<|aD U ?_
    refine aS ?_;refine dF (α:=Nat) [2,3,4,30,31] (fun k=>[(32,.int .i64 (k:Int)),(11,.int .i64 (m9 bs k))]) (fun k=>[[(b4,blk [.int .i64 N,.slice A l.length cap] 24)]]) (fun k=>k≤bs.length∧∀ j (h:j<bs.length),j<k→m9 bs j<bs[j]∧bs[j]≤1024) (fun k=>bs.length - k) (0) ?_ ?_ ?_ ?_
    ·exact aF
    ·exact aC
    ·exact ⟨Nat.zero_le _,fun j _ h=>aA⟩
    ·rintro k ⟨aj,O⟩;refine aG fun kh13=>aB 1 rfl<|aD kh13<|aV fun kh14=>aX rfl (fun ah=>?_) (fun ah=>?_)
     ·have hk:k<bs.length:=aA
      obtain ⟨b1,o1,rfl,ag,ab⟩:=hB (fun e=>by have:=a7 bs;rw [e] at this;simp at this;omega)
      refine bZ kh14<|aV fun kh15=>aS<|aG fun kh16=>f_Q (aM bU rfl rfl (o1+k))<|f_Q (aH Tryz.isAgg3 rfl (eC (enc:=(.int .i64 ·)) ag ab hk))<|aB 1 rfl<|aD kh16<|aV fun kh17=>aG fun kh18=>?_
      refine aB 2 rfl ?_;refine f_S (aW Tryz.call69 rfl (fun w_ J=>nbounded_spec bs[k] (m9 bs k) w_) ?_);rintro _ _ ⟨rfl,rfl⟩;dsimp only [aK,aJ];refine aB 1 rfl<|aD kh18<|e8 rfl (fun c39=>?_) (fun c39=>?_)
      ·have F:badB bs=true:=by
         rw [← Bool.not_eq_false,badB_no];intro h;have:=h k hk
         rw [bs_at hk] at this;simp at c39;omega
       refine aG fun Y=>aB 1 rfl<|aD Y<|aZ<|dA<|fA<|dA<|dA<|fA<|dA ?_
       have e:plE N l bs cs mv=1:=by unfold plE;rw [if_neg (by rw [hg];simp),if_neg aA,if_pos F]
       exact bO [] Tryz.results54 rfl aC ⟨by rw [e],rfl⟩
      ·refine bZ kh17<|aI<|aB 2 rfl<|aY<|dI<|bP kh15<|aI<|f_Q (bF rfl rfl)<|aB 1 rfl<|aY ?_
       refine f_reQ 11 rfl (v:= .int .i64 (m9 bs (k+1))) (by show _=Value.int .i64 (bs.getD k 0);rw [bs_at hk]) ?_
       refine cV (a6 (k+1) (by first|omega|(dsimp only;omega)|(simp;omega)) ⟨aA,fun j h hj=>by
         by_cases e:j=k
         ·subst e;simpa using c39
         ·exact O j h aA⟩ ?_ ?_ ?_)
       ·exact aF
       ·exact aF
       ·exact aC
     ·have F:badB bs=false:=badB_no.2 fun j hj=>by rw [bs_at hj];exact O j hj aA
      refine cS<|cU<|cU<|eH<|bP kh11<|aV fun kh20=>aS<|aG fun kh21=>aB 1 rfl<|dY bU rfl ?_
      refine aB 2 rfl<|aD kh21<|aX rfl (fun c42=>?_) (fun c42=>?_)
      ·refine aG fun aa=>aB 1 rfl<|aD aa<|aZ<|fA<|dA ?_
       have e:plE N l bs cs mv=2:=by unfold plE;rw [if_neg (by rw [hg];simp),if_neg aA,if_neg (by rw [F];simp),if_pos aA]
       exact bO [] Tryz.results54 rfl aC ⟨by rw [e],rfl⟩
      ·refine aG fun kh23=>aB 1 rfl<|f_Q (mH rfl rfl) ?_
       refine f_S (aW Tryz.call75 rfl (fun w_ J=>ContG_spec C cs cc (offV N) 81 [.pointer (some ⟨b4,0,none⟩)] w_ (hC.up0 J) ac Tryz.call81 (fun w' hs i hi=>planned1_spec N A l.length cap b4 i w' (heldRo J hs))) ?_);rintro _ _ ⟨rfl,rfl⟩;dsimp only [aK,aJ];refine aB 1 rfl<|aD kh23<|e8 rfl (fun c46=>?_) (fun c46=>?_)
       ·refine aG fun X=>aB 1 rfl<|aD X<|aZ<|fA<|dA ?_
        have e:plE N l bs cs mv=5:=by unfold plE;rw [if_neg (by rw [hg];simp),if_neg aA,if_neg (by rw [F];simp),if_neg aA,if_pos c46]
        exact bO [] Tryz.results54 rfl aC ⟨by rw [e],rfl⟩
       ·refine aG fun kh25=>aB 3 rfl<|eA 53 rfl (fun g53=>?_) (fun g53=>?_)
        ·refine aB 4 rfl<|aD kh25<|eW rfl<|aG fun kh26=>aB 1 rfl<|aD kh26<|aZ<|fA<|dA ?_
         have e:plE N l bs cs mv=1:=by unfold plE;rw [if_neg (by rw [hg];simp),if_neg aA,if_neg (by rw [F];simp),if_neg aA,if_neg (by rw [c46];simp),if_pos aA]
         exact bO [] Tryz.results54 rfl aC ⟨by rw [e],rfl⟩
        ·refine aB 4 rfl<|aD kh25<|aX rfl (fun c50=>?_) (fun c50=>?_)
         ·refine aG fun Z=>aB 1 rfl<|aD Z<|aZ<|fA<|dA ?_
          have e:plE N l bs cs mv=1:=by unfold plE;rw [if_neg (by rw [hg];simp),if_neg aA,if_neg (by rw [F];simp),if_neg aA,if_neg (by rw [c46];simp),if_pos aA]
          exact bO [] Tryz.results54 rfl aC ⟨by rw [e],rfl⟩
         ·refine dZ<|dI<|bP kh20<|aG fun kh28=>aB 1 rfl<|aD kh28<|aZ ?_
          have e:plE N l bs cs mv=0:=by unfold plE;rw [if_neg (by rw [hg];simp),if_neg aA,if_neg (by rw [F];simp),if_neg aA,if_neg (by rw [c46];simp),if_neg aA]
          exact bO [] Tryz.results54 rfl aC ⟨by rw [e],rfl⟩
theorem lowest_spec (n:Nat) (A:Option Addr) (l:List Arc) (cap:Nat) (b:Int) (C:Option Addr) (cs:List Int) (cc:Nat) (mv:Int) (w:World) (hr:Ro (Fr w []) w A (l.flatMap cH)) (hl:l.length≤9223372036854775807) (hN:I64 (n:Int)) (hok:∀ x∈l,eN x) (hC:Ro (Fr w []) w C (a8 cs)) (bi:cs.length≤16384) (hg:(cL (n:Int) l).2=0) (hb:1≤b∧b≤1024) (an:∀ v∈cs,0≤v∧v<(n:Int)) (az:0≤mv∧mv≤16384):
    Meets Tryz.prog 55 [.agg #[.int .i64 (n:Int),.slice A l.length cap],.int .i64 b,.slice C cs.length cc,.int .i64 mv] w [] (fun u own' =>∃ (L:List Int) (A' :Option Addr) (c' :Nat) (m' :Seg),u= .tuple #[.slice A' L.length c',.int .i64 0]∧own' =[m']∧Own 3 1 (.slice A' L.length c') L.length (a8 L) m'∧LowN n l b cs mv L):=by
 obtain ⟨bh,bk,ah,ar⟩:=cF hg
 have al:mkE (n:Int) l cs b=0:=by
   unfold mkE
   rw [if_neg (by rw [hg];simp),if_neg aA,if_neg aA,if_neg];rw [Bool.not_eq_true,List.any_eq_false];intro v hv;have:=an v hv
   unfold offV;simp;omega
 refine bG Tryz.func55 rfl Tryz.ntmps55 rfl Owns.nil<|aG fun kh1=>f_S (cZ rfl rfl fun b4=>?_)
 refine aB 2 rfl<|aD kh1<|aG fun kh2=>f_Q (aQ (vs:=[_,_]) Tryz.isAgg24 Tryz.sizeOf24 rfl rfl ⟨(rdA rfl),(rdA rfl),trivial⟩)<|aB 2 rfl ?_
 refine f_S (aW Tryz.call82 rfl (fun U F=>Marks_spec (n:Int) A C l cap cs cc b U (hr.up0 F) hl hN hok (hC.up0 F) aA) ?_);rintro _ _ ⟨M,AM,cM,mM,rfl,rfl,ay,_,av⟩;obtain ⟨ad,Y⟩:=av al
 rw [Int.toNat_natCast] at Y
 have X:∀ p∈M,p∈prs n l:=fun p hp=>by
   obtain ⟨v,_,C',a1,bc⟩:=(Y p).1 hp
   exact (nc_sub a1).1 p bc
 have bj:M.length≤8192:=Nat.le_trans (List.Nodup.length_le_of_subset (nodup_X ad) X) (Nat.le_trans (prs_few (raw_good ar)) ah)
 have Z:l8 (n:Int) l M=0:=by
   unfold l8
   rw [if_neg (by rw [hg];simp),if_neg aA];exact fE_zeroM X
 rw [al];dsimp only [aK,aJ];refine aB 5 rfl<|aD kh2<|aV fun kh3=>aG fun kh4=>aB 2 rfl<|aD kh4<|d4 rfl aO<|bZ kh3<|aG fun kh5=>f_Q (aQ (vs:=[_,_]) Tryz.isAgg24 Tryz.sizeOf24 rfl rfl ⟨(rdA rfl),(rdA rfl),trivial⟩) ?_
 refine aB 1 rfl ?_;refine f_S (aW Tryz.call83 rfl (fun U F=>Fragments_spec (n:Int) A AM l cap M M.length U (hr.up0 F) hl hN hok (fD (ay.seen F)) aA (fun p hp=>by have:=jD (X p hp);unfold I64;omega)) ?_);rintro _ _ ⟨P,AP,cP,mP,rfl,rfl,ap,ax,_⟩;obtain ⟨p,rfl,hp⟩:=ax Z
 rw [Int.toNat_natCast] at hp;have bf:=hp.len
 have am:=natN_right hp.tidy hp.len
 have ac:=spE_oneN (bd:=b) hg am hb
 obtain ⟨bn,rfl⟩:∃ bn:Nat,b=(bn:Int):=⟨b.toNat,aA⟩
 obtain ⟨ab,ao,_⟩:=cut_holds (l:=l) am aA aA ah (b:=bn) aA
 have ak:∀ y,(gJ (cutL l (natN p) bn) y:Int)≤(bn:Int):=fun y=>by have:=ao y;omega
 have aj:=joinE_zeroM hg ab hb ak
 rw [Z];dsimp only [aK,aJ];refine aB 5 rfl<|aD kh5<|aV fun kh6=>aG fun kh7=>aB 2 rfl<|aD kh7<|d4 rfl aO<|bZ kh6<|aV fun kh8=>aG fun kh9=>?_
 refine f_Q (aQ (vs:=[_,_]) Tryz.isAgg24 Tryz.sizeOf24 rfl rfl ⟨(rdA rfl),(rdA rfl),trivial⟩)<|aB 2 rfl ?_
 refine f_S (aW Tryz.call84 rfl (fun U F=>CutUp_spec (n:Int) A AP l cap (natN p) cP (bn:Int) U (hr.up0 F) hl hN hok (fD (ap.seen F)) (by rw [natN_len];omega)) ?_);rintro _ _ ⟨Lc,Ac,ba,mc,rfl,rfl,aa,_,a2⟩;obtain rfl:=a2 ac
 rw [Int.toNat_natCast] at aa ⊢;have be:=(d6 ab).2
 rw [ac];dsimp only [aK,aJ];refine aB 5 rfl<|aD kh9<|aG fun kh10=>aB 2 rfl<|aD kh10<|d4 rfl aO<|bZ kh8<|aV fun kh11=>aG fun kh12=>f_Q (aQ (vs:=[_,_]) Tryz.isAgg24 Tryz.sizeOf24 rfl rfl ⟨(rdA rfl),(rdA rfl),trivial⟩) ?_
 refine aB 2 rfl ?_;refine f_S (aW Tryz.call57 rfl (fun U F=>Join_spec (n:Int) A Ac l cap (cutL l (natN p) bn) ba (bn:Int) U (hr.up0 F) hl hN hok (fD (aa.seen F)) aA) ?_);rintro _ _ ⟨J,AJ,cJ,mJ,rfl,rfl,aw,_,au⟩;obtain ⟨O,ae,ai⟩:=au aj
 rw [Int.toNat_natCast] at O ae ai;have bg:=(d6 O.right).2
 have aq:=imp_right hg O.right hb O.size az
 rw [aj];dsimp only [aK,aJ];refine aB 5 rfl<|aD kh12<|aG fun kh13=>aB 2 rfl<|aD kh13<|d4 rfl aO<|bZ kh11<|aG fun kh14=>f_Q (aQ (vs:=[_,_]) Tryz.isAgg24 Tryz.sizeOf24 rfl rfl ⟨(rdA rfl),(rdA rfl),trivial⟩)<|aB 3 rfl ?_
 refine f_S (aW Tryz.call85 rfl (fun U F=>Improve_spec (n:Int) A AJ l cap J cJ (bn:Int) mv U (hr.up0 F) hl hN hok (fD (aw.seen F)) aA) ?_);rintro _ _ ⟨sI,mI,rfl,rfl,ag⟩;obtain ⟨AI,cI,rfl,_⟩:=ag.val
 rw [aq.1];dsimp only [aK,aJ];refine aB 6 rfl<|aD kh14<|aG fun kh15=>aB 4 rfl<|aD kh15<|aZ ?_
 exact dB [mI] Tryz.results55 rfl rfl aC ⟨_,AI,cI,mI,rfl,rfl,ag,M,p,J,ad,Y,hp,by rw [Int.toNat_natCast];exact O,ae,by rw [Int.toNat_natCast];exact ai,rfl⟩
theorem Make_spec (N:Int) (A:Option Addr) (l:List Arc) (cap:Nat) (B:Option Addr) (bs:List Int) (bc:Nat) (C:Option Addr) (cs:List Int) (cc:Nat) (mv:Int) (w:World) (hr:Ro (Fr w []) w A (l.flatMap cH)) (hl:l.length≤9223372036854775807) (hN:I64 N) (hok:∀ x∈l,eN x) (hB:Ro (Fr w []) w B (a8 bs)) (bh:bs.length≤9223372036854775807) (hC:Ro (Fr w []) w C (a8 cs)) (az:cs.length≤9223372036854775807) (bE:bs.length≤bc∧bc≤9223372036854775807):
    Meets Tryz.prog 18 [.agg #[.int .i64 N,.slice A l.length cap],.slice B bs.length bc,.slice C cs.length cc,.int .i64 mv] w [] (fun u own' =>∃ (X:List Int) (L:List (List Int)) (R:List Row) (Ab Ac:Option Addr) (U ak:Nat) (mb Y:Seg) (ms:List Seg),u= .tuple #[.agg #[.slice Ab X.length U,.slice Ac R.length ak],.int .i64 (plE N l bs cs mv)]∧own' =[mb,Y,ms.flatten]∧Own 3 1 (.slice Ab X.length U) X.length (a8 X) mb∧Own 25 1 (.slice Ac R.length ak) R.length (R.map fI) Y∧RowsI 3 L (R.map fI) ms∧bJ R=L∧
      (plE N l bs cs mv≠0→X=[]∧L=[])∧(plE N l bs cs mv=0→X=bs∧L.length=bs.length∧MkTo N.toNat l bs cs mv L)):=by
 refine bG Tryz.func18 rfl Tryz.ntmps18 rfl Owns.nil<|aG fun kh1=>f_S (cZ rfl rfl fun b4=>?_)
 refine f_S (cX Tryz.zeroValue34 rfl fun b8=>?_);refine aB 1 rfl<|aD kh1<|aV fun kh2=>aG fun kh3=>f_Q (aQ (vs:=[_,_]) Tryz.isAgg24 Tryz.sizeOf24 rfl rfl ⟨(rdA rfl),(rdA rfl),trivial⟩)<|aB 3 rfl ?_
 refine f_S (aW Tryz.call54 rfl (fun w_ O=>planned_spec N A l cap B bs bc C cs cc mv w_ (hr.up0 O) hl hN hok (hB.up0 O) bh (hC.up0 O) az) ?_);rintro _ _ ⟨rfl,rfl⟩;dsimp only [aK,aJ];refine aB 1 rfl<|aD kh3<|aG fun kh4=>aB 2 rfl<|aD kh4<|aX rfl (fun c22=>?_) (fun c22=>?_)
 ·
  refine aG fun a1=>f_Q (dU (cs:=[.slice none 0 0,.slice none 0 0]) st34 rfl rfl)<|aB 1 rfl<|f_Z (bS Tryz.sizeOf34 rfl rfl rfl rfl cG [.slice none 0 0,.slice none 0 0] rfl ?_)
  refine aB 1 rfl<|aD a1<|aZ<|dA ?_
  exact gT (vs:=[.slice none 0 0,.slice none 0 0]) [[],[],([]:List Seg).flatten] Tryz.results18 rfl Tryz.isAgg34 Tryz.sizeOf34 rfl ⟨(rdA rfl),(rdA rfl),trivial⟩ rfl (by rw [List.flatten_nil];exact aC) ⟨[],[],[],none,none,0,0,[],[],[],rfl,rfl,Own.nil _ _,Own.nil _ _,⟨rfl,rfl,fun i hi=>by simp at hi⟩,rfl,fun _=>⟨rfl,rfl⟩,fun h=>absurd h (by simpa using c22)⟩
 ·
  have hz:plE N l bs cs mv=0:=by simpa using c22
  obtain ⟨n,bf,F⟩:=plE_zero hz
  subst bf;have ay:=F.many
  have bB:=cF F.g
  have h0:0<bs.length:=aA
  obtain ⟨b1,o1,rfl,ar,ap⟩:=hB (fun e=>by have:=a7 bs;rw [e] at this;simp at this;omega)
  refine bZ kh2<|aV fun kh6=>cQ [[(b4,blk [.int .i64 (n:Int),.slice A l.length cap] 24)],[(b8,blk [.slice none 0 0,.slice none 0 0] 34)]] rfl<|f_T 0 rfl (aQ (vs:=[_,_]) Tryz.isAgg24 Tryz.sizeOf24 rfl rfl ⟨(rdA rfl),(rdA rfl),trivial⟩)<|f_T 1 rfl (aR rfl)<|f_T 2 rfl (aM bU rfl rfl (o1+0))<|f_T 3 rfl (aH Tryz.isAgg3 rfl (eC (enc:=(.int .i64 ·)) ar ap h0))<|f_T 4 rfl (aR rfl)<|f_T 5 rfl (aR rfl) ?_
  refine f_O 6 rfl (aW Tryz.call55 rfl (fun w_ O=>lowest_spec n A l cap bs[0] C cs cc mv w_ (hr.up0 O) hl hN hok (hC.up0 O) F.few F.g (by have:=F.first;rw [bs_at h0] at this;exact this) F.rng F.moves) ?_);rintro _ _ ⟨L0,A0,c0,m0,rfl,rfl,bg,av⟩;dsimp only [aK,aJ];refine ⟨aC,?_⟩;refine f_T 7 rfl (aR rfl)<|f_T 8 rfl (eU rfl rfl)<|f_T 9 rfl (eU rfl rfl)<|f_O 10 rfl ((bI rfl).does ⟨aC,?_⟩)
  refine f_O 11 rfl ((bI rfl).does ⟨aC,?_⟩);refine cO aU<|bP kh6<|aV fun kh7=>aG fun kh8=>aB 2 rfl<|aD kh8<|d4 rfl aO<|bZ kh7<|aG fun kh9=>aB 1 rfl ?_
  refine f_S (aW Tryz.call56 rfl (fun w_ O=>oP (some ⟨b1,o1,none⟩) bs.length (a8 bs) bc w_ (hB.up0 O) (fun e=>by cases e) (by rw [a7];omega) (ints_oneG _) aA) ?_);rintro bv _ ⟨ae,rfl,ad⟩;obtain ⟨Ab,U,rfl,_⟩:=ad.val
  dsimp only [aK,aJ];refine aB 1 rfl<|f_S (bX el32 aA rfl rfl rfl fun b42=>?_)
  refine f_Q (dU (cs:=[.slice Ab bs.length U,.slice (some ⟨b42,0,none⟩) 1 1]) st34 rfl rfl)<|f_S (cX Tryz.zeroValue34 rfl fun b13=>?_)
  refine f_Z (bS Tryz.sizeOf34 rfl rfl rfl rfl cG [.slice Ab bs.length U,.slice (some ⟨b42,0,none⟩) 1 1] rfl ?_);refine aD kh9<|aV fun kh10=>aG fun aq=>aB 1 rfl<|f_Q (f7 bU rfl rfl rfl rfl (fun h=>by cases h) 1 _ _ (.inr ⟨_,_,rfl,aA⟩) (.inl ⟨rfl,rfl⟩) (.inl ⟨rfl,rfl⟩) ⟨aA,aA,aA⟩ (.slice (if bc=1 then some ⟨b1,o1,none⟩ else some ⟨b1,o1+1,none⟩) (bs.length - 1) (bc - 1)) (by congr 1)) ?_
  refine dY bU rfl<|aB 1 rfl<|aD aq<|aS ?_
  refine dF (α:=Nat×List (List Int)×List Value×List Seg×Value×Value×Seg) [4,8,13,45,46] (fun ⟨i,L,vs,ms,vl,cv,Y⟩=>[(47,.int .i64 (i:Int)),(11,vl)]) (fun ⟨i,L,vs,ms,vl,cv,Y⟩=>[[(b13,blk [.slice Ab bs.length U,cv] 34)],ae,Y,ms.flatten,[(b4,blk [.int .i64 (n:Int),.slice A l.length cap] 24)],[(b8,blk [.slice none 0 0,.slice none 0 0] 34)]]) (fun ⟨i,L,vs,ms,vl,cv,Y⟩=>i+1≤bs.length∧L.length=i+1∧RowsI 3 L vs ms∧vs.getLast? =some vl∧Own 25 1 cv L.length vs Y∧MkTo n l bs cs mv L) (fun ⟨i,L,vs,ms,vl,cv,Y⟩=>bs.length - i) (0,[L0],[.slice A0 L0.length c0],[m0],.slice A0 L0.length c0,.slice (some ⟨b42,0,none⟩) 1 1,[(b42,blk [.slice A0 L0.length c0] 25)]) ?_ ?_ ?_ ?_
  · exact aF
  · dsimp only
    rw [show ([m0]:List Seg).flatten=m0 from by simp];exact aC
  · exact ⟨aA,rfl,RowsI.one bg,rfl,Own.mk rfl aA,by rw [bs_at h0];exact av,fun k hk=>by simp at hk⟩
  ·
   rintro ⟨i,L,vs,ms,vl,cv,Y⟩ ⟨bD,au,aa,aw,ag,ai⟩;obtain ⟨Ac,ab,rfl,bt⟩:=ag.val
   refine aG fun kh12=>aB 1 rfl<|aD kh12<|aV fun kh13=>aX rfl (fun bp=>?_) (fun bp=>?_)
   ·
    have hi:i+1<bs.length:=aA
    obtain ⟨Al,cr,am,ac⟩:=last_row aa aA aw
    rw [show L.length - 1=i by omega] at am ac;subst am;have ah:=ai.right F (k:=i) aA
    have bC:=(d6 ah.1).2
    obtain ⟨br,bw,rfl,bi⟩:=ac aA
    have bk:=F.bnd (i+1) hi
    have aj:m9 bs (i+1)=bs.getD i 0:=rfl
    have bu:=F.bnd i aA
    have be:0≤m9 bs i:=by
      cases i with
      |zero=>exact Int.le_refl _
      |succ j=>have h1:=F.bnd j aA;have h2:m9 bs (j+1)=bs.getD j 0:=rfl;have h3:0≤m9 bs j:=blw_nn F aA;omega
    rw [aj] at bk;have al:=joinE_zeroM (bd:=bs[i+1]) F.g ah.1 (by rw [← bs_at hi];omega) (fun y=>by have:=ah.2 y;rw [← bs_at hi];omega)
    refine bZ kh13<|aV fun kh14=>aS<|aG fun kh15=>f_Q (o_idx bU (show _=some (Value.slice (some ⟨b1,o1+1,none⟩) (bs.length - 1) (bc - 1)) from by show some (Value.slice (if bc=1 then _ else _) _ _)=_;rw [if_neg aA]) rfl (o1+1+i) ⟨aA,aA,aA⟩) ?_
    refine f_Q (aH Tryz.isAgg3 rfl (show Rd _ _ _ _ _ (.int .i64 bs[i+1]) by rw [show o1+1+i=o1+(i+1) by omega];exact eC (enc:=(.int .i64 ·)) ar ap hi)) ?_;refine aB 1 rfl<|aD kh15<|aV fun kh16=>aG fun kh17=>f_Q (aQ (vs:=[_,_]) Tryz.isAgg24 Tryz.sizeOf24 rfl rfl ⟨(rdA rfl),(rdA rfl),trivial⟩)<|aB 2 rfl ?_
    refine f_S (aW Tryz.call57 rfl (fun w_ O=>Join_spec (n:Int) A (some ⟨br,0,none⟩) l cap (L.getD i []) cr bs[i+1] w_ (hr.up0 O) hl hN hok (ro_in O (G:=ms.flatten) bi) aA) ?_);rintro _ _ ⟨J,AJ,cJ,mJ,rfl,rfl,ax,_,ba⟩;obtain hJ:=ba al
    rw [Int.toNat_natCast] at hJ;rw [al];dsimp only [aK,aJ];refine aB 5 rfl<|aD kh17<|aG fun kh18=>aB 2 rfl<|aD kh18<|d4 rfl aO<|bZ kh16<|aI<|cN jF rfl<|c7 Tryz.isAgg32 rfl (rdA rfl) ?_
    refine aB 1 rfl<|f_S (bX el32 aA rfl rfl rfl fun b65=>?_)
    refine f_S (dJ el32 rfl rfl ag (ys:=[.slice AJ J.length cJ]) ⟨(rdA rfl),trivial⟩ rfl rfl aA aA fun v66 bj ao=>?_);obtain ⟨bq,a2,rfl,_⟩:=ao.val
    refine cN jF rfl<|f_Z (bQ Tryz.sizeOf32 rfl rfl rfl rfl cG [.slice Ab bs.length U,.slice bq (L.length+1) a2] rfl ?_)
    refine aY<|dI<|bP kh14<|aI<|f_Q (bF rfl rfl)<|aB 1 rfl<|aY<|gN (Sub.joinF (m:=mJ) (G' :=ms.flatten) nO) ?_
    refine cV (a6 (i+1,L++[J],vs++[.slice AJ J.length cJ],ms++[mJ],.slice AJ J.length cJ,_,bj) (by first|omega|(dsimp only;omega)|(simp;omega)) ⟨aA,by simp [au],RowsI.snoc aa ax,aO,by rw [List.length_append];exact ao,ai.snoc aA (by rw [show L.length - 1=i by omega,au,bs_at hi];exact hJ)⟩ ?_ ?_ ?_)
    · exact aF
    · exact aF
    · exact aC
   ·
    obtain rfl:i=bs.length - 1:=aA
    obtain ⟨R,rfl,an⟩:=RowsI.rows aa
    have Z:R.length=L.length:=by rw [← an,eZ]
    refine cS<|cU<|cU<|eH<|bP kh10<|aG fun kh19=>f_Q (aQ (vs:=[.slice Ab bs.length U,.slice Ac L.length ab]) Tryz.isAgg34 Tryz.sizeOf34 rfl rfl ⟨(rdA rfl),(rdA rfl),trivial⟩)<|f_Z (bS Tryz.sizeOf34 rfl rfl rfl rfl cG [.slice Ab bs.length U,.slice Ac L.length ab] rfl ?_)
    refine aB 1 rfl<|aD kh19<|aZ ?_
    exact gT (vs:=[.slice Ab bs.length U,.slice Ac L.length ab]) [ae,Y,ms.flatten] Tryz.results18 rfl Tryz.isAgg34 Tryz.sizeOf34 rfl ⟨(rdA rfl),(rdA rfl),trivial⟩ rfl aC ⟨bs,L,R,Ab,Ac,U,ab,ae,Y,ms,by rw [hz,Z],rfl,ad,by rw [Z];exact ag,aa,an,fun h=>absurd hz h,fun _=>⟨rfl,aA,by rw [Int.toNat_natCast];exact ai⟩⟩
end Go.Proofs.YthpkelafioikaaaGreat
