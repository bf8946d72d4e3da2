import Derived.Test.YthpkelafioikaaaGreatFlyRun
import Derived.Test.YthpkelafioikaaaGreatAll6
import Derived.Test.YthpkelafioikaaaGreatAll12
import Derived.Test.YthpkelafioikaaaGreatAll5
namespace Go.Proofs.YthpkelafioikaaaGreat
open Go Go.RowKit Fly
set_option maxRecDepth 100000
set_option maxHeartbeats 4000000
set_option linter.all false
def DIn (F:List Seg) (m:Mx):Prop:=m.D=[]∨∃ b sp,m.A=some ⟨b,0,none⟩∧(b,blk (eT m.D++sp) 46)∈F.flatten
theorem DIn.own {m:Mx} {s:Seg} (h:Own 46 1 (.slice m.A m.D.length m.cap) m.D.length (eT m.D) s) (J:List Seg):DIn (J++[s]) m:=by
 rcases Nat.eq_zero_or_pos m.D.length with F|F
 ·exact .inl (List.eq_nil_of_length_eq_zero F)
 ·obtain ⟨b,sp,e,rfl⟩:=h.at_ F
  exact .inr ⟨b,sp,e,aO⟩
theorem DIn.more {m:Mx} {F:List Seg} (h:DIn F m) (s:Seg):DIn (F++[s]) m:=by
 rcases h with h|⟨b,sp,e,h⟩
 ·exact .inl h
 ·exact .inr ⟨b,sp,e,by rw [List.flatten_append];exact List.mem_append_left _ h⟩
structure BRep (Os:List (List Mx)) (vs:List Value) (rs ds:List Seg):Prop where
 lv:vs.length=Os.length
 lr:rs.length=Os.length
 own : ∀ (k : Nat) (h : k < Os.length), Own 138 4 (vs[k]'(lv.symm ▸ h)) Os[k].length (Os[k].flatMap gW) (rs[k]'(lr.symm ▸ h))
 mats:∀ row∈Os,∀ m∈row,DIn ds m
theorem BRep.start (n:Nat):BRep (List.replicate n []) (List.replicate n (.slice none 0 0)) (List.replicate n []) []:=
 ⟨aO,aO,fun k h=>by simp only [List.getElem_replicate];exact Own.nil _ 4,fun row hr m hm=>by rw [List.eq_of_mem_replicate hr] at hm;cases hm⟩
theorem BRep.split {J:List (List Mx)} {vs:List Value} {O Y:List Seg} (h:BRep J vs O Y) {k:Nat} (hk:k<J.length):
  ∃ v r G,vs[k]? =some v∧Own 138 4 v (J.getD k []).length ((J.getD k []).flatMap gW) r∧O.flatten.Perm (r++G)∧
   ∀ (x:Mx) v' U m',Own 138 4 v' ((J.getD k []).length+1) ((J.getD k []).flatMap gW++gW x) U→Own 46 1 (.slice x.A x.D.length x.cap) x.D.length (eT x.D) m'→BRep (J.set k (J.getD k []++[x])) (vs.set k v') (O.set k U) (Y++[m'])∧(U++G).Perm (O.set k U).flatten:=by
 have hr:k<O.length:=by rw [h.lr];exact hk
 have hg:J.getD k []=J[k]:=by simp [List.getD_eq_getElem?_getD,hk]
 rw [hg];refine ⟨_,_,_,List.getElem?_eq_getElem (by rw [h.lv];exact hk),h.own k hk,gL O k hr,fun x v' U m' ho hm=>⟨⟨by simp [h.lv],by simp [h.lr],fun j hj=>?_,fun row X m F=>?_⟩,?_⟩⟩
 ·simp only [List.getElem_set]
  by_cases e:k=j
  ·subst e;rw [if_pos rfl,if_pos rfl,if_pos rfl,← mx_len1];exact ho
  ·rw [if_neg e,if_neg e,if_neg e];exact h.own j (by simpa using hj)
 ·obtain ⟨j,hj,rfl⟩:=List.mem_iff_getElem.1 X
  rw [List.getElem_set] at F
  by_cases e:k=j
  ·subst e
   rw [if_pos rfl] at F
   rcases List.mem_append.1 F with F|F
   ·exact (h.mats _ (List.getElem_mem hk) m F).more _
   ·rw [List.mem_singleton.1 F];exact DIn.own hm Y
  ·rw [if_neg e] at F
   exact (h.mats _ (List.getElem_mem _) m F).more _
 ·have:=gL (O.set k U) k (by simpa using hr)
  rw [List.getElem_set_self,List.eraseIdx_set_eq] at this;exact this.symm
theorem BRep.ro {S:Nat→Prop} {w0 w:World} {segs o2 o3:List Seg} {F:List (List Mx)} {vs:List Value} {J ds:List Seg} (h:BRep F vs J ds) (b:Nat) {T:TypeId} {f:Seg→List Seg} (hp:Hp S w0 segs.flatten w) [h1:At segs b (blk vs T) f] [p2:Pick segs J.flatten o2] [p3:Pick segs ds.flatten o3] (hl:F.length≤1000):
  ∃ O:List MRow,vs=O.map mrV∧g4 O=F∧OvRo (Fr w []) w (some ⟨b,0,none⟩) O:=by
 have ad:=h.lv
 have key:∀ i,i<F.length→∃ r:MRow,(∀ hv:i<vs.length,vs[i]=mrV r)∧∀ hi:i<F.length,F[i]=r.2.1:=fun i hi=>by
  obtain ⟨A,c,e,_⟩:=(h.own i hi).val
  exact ⟨(A,F[i],c),fun _=>e,fun _=>rfl⟩
 obtain ⟨O,ac,Z⟩:=list_of (R:=fun i r=>(∀ hv:i<vs.length,vs[i]=mrV r)∧∀ hi:i<F.length,F[i]=r.2.1) key
 have e1:vs=O.map mrV:=List.ext_getElem (by simp;omega) fun i h1 h2=>by rw [List.getElem_map];exact (Z i (by simpa using h2)).1 h1
 have e2:g4 O=F:=List.ext_getElem (by simp [g4];omega) fun i h1 h2=>by simp only [g4,List.getElem_map];exact ((Z i aA).2 h2).symm
 refine ⟨O,e1,e2,by rw [← e1];exact fK (b:=b) hp fun j v hj=>hj,aA,fun r hr=>?_,fun r hr m hm=>?_⟩
 ·obtain ⟨i,hi,rfl⟩:=List.mem_iff_getElem.1 hr
  have U:i<F.length:=aA
  have ho:=h.own i U
  rw [(Z i hi).1 aA,(Z i hi).2 U] at ho;have ab:i<J.length:=by rw [h.lr];exact U
  have Y:Fly.Sub segs (J[i]::[(J.eraseIdx i).flatten]):=⟨o2.flatten,by
   have:=p2.perm.trans ((gL J i ab).append_right o2.flatten)
   simpa using this⟩
  exact ⟨fD (ho.seen (segs:=J[i]::[(J.eraseIdx i).flatten]) (hp.sub Y)),by have:=ho.val;obtain ⟨_,_,e,h⟩:=this;cases e;omega⟩
 ·have X:r.2.1∈F:=by rw [← e2];exact List.mem_map.2 ⟨r,hr,rfl⟩
  rcases h.mats _ X m hm with h0|⟨b',sp,e,aa⟩
  ·rw [h0];exact Ro.nil
  ·rw [e];exact ro_in hp aa
structure OvSt (l:List Arc) (Ls:List (List Int)) (ep:Int) (nb k c:Nat) (Os:List (List Mx)):Prop where
 len:Os.length=nb
 done:∀ j,j<k→RowOk l (Ls.getD j []) j ep (Os.getD j [])∧((Os.getD j []).length:Int)=fC (Ls.getD j [])+1
 cur:(Os.getD k []).length=c∧∀ j,j<c→∃ x,(Os.getD k [])[j]? =some x∧MxOk l (Ls.getD k []) k (j:Int) ep x
 rest:∀ j,k<j→Os.getD j []=[]
structure OvOk (l:List Arc) (Ls:List (List Int)) (nb:Nat) (ep:Int) (Os:List (List Mx)):Prop where
 len:Os.length=nb
 row:∀ k,k<nb→RowOk l (Ls.getD k []) k ep (Os.getD k [])∧((Os.getD k []).length:Int)=fC (Ls.getD k [])+1
theorem getD_rep (n k:Nat):(List.replicate n ([]:List Mx)).getD k []=[]:=by
 rw [List.getD_eq_getElem?_getD,List.getElem?_replicate];split<;>rfl
theorem OvSt.start (l:List Arc) (Ls:List (List Int)) (ep:Int) (F:Nat):OvSt l Ls ep F 0 0 (List.replicate F []):=
 ⟨aO,fun j h=>aA,by rw [getD_rep];exact ⟨rfl,fun j h=>aA⟩,fun j _=>getD_rep _ _⟩
theorem getD_setM {F:List (List Mx)} {k j:Nat} {r:List Mx} (hk:k<F.length):(F.set k r).getD j []=if k=j then r else F.getD j []:=by
 rw [List.getD_eq_getElem?_getD,List.getElem?_set]
 by_cases e:k=j
 ·subst e;simp [hk]
 ·simp [e,List.getD_eq_getElem?_getD]
theorem OvSt.add {l:List Arc} {Ls:List (List Int)} {ep:Int} {O k c:Nat} {J:List (List Mx)} (h:OvSt l Ls ep O k c J) (hk:k<O) {x:Mx} (hx:MxOk l (Ls.getD k []) k (c:Int) ep x):OvSt l Ls ep O k (c+1) (J.set k (J.getD k []++[x])):=by
 have F:k<J.length:=by rw [h.len];exact hk
 refine ⟨by simp [h.len],fun j hj=>?_,?_,fun j hj=>?_⟩
 ·rw [getD_setM F,if_neg aA];exact h.done j hj
 ·rw [getD_setM F,if_pos rfl]
  refine ⟨by rw [List.length_append,h.cur.1];rfl,fun j hj=>?_⟩
  by_cases e:j=c
  ·subst e
   exact ⟨x,by rw [List.getElem?_append_right (by rw [h.cur.1];omega),h.cur.1,Nat.sub_self];rfl,hx⟩
  ·obtain ⟨y,h1,h2⟩:=h.cur.2 j aA
   exact ⟨y,by rw [List.getElem?_append_left (List.getElem?_eq_some_iff.1 h1).1];exact h1,h2⟩
 ·rw [getD_setM F,if_neg aA];exact h.rest j hj
theorem OvSt.up {l:List Arc} {Ls:List (List Int)} {ep:Int} {F k c:Nat} {J:List (List Mx)} (h:OvSt l Ls ep F k c J) (hc:(c:Int)=fC (Ls.getD k [])+1):OvSt l Ls ep F (k+1) 0 J:=by
 refine ⟨h.len,fun j hj=>?_,by rw [h.rest (k+1) aA];exact ⟨rfl,fun j h=>aA⟩,fun j hj=>h.rest j aA⟩
 by_cases e:j=k
 ·subst e;exact ⟨fun c' O=>h.cur.2 c' aA,by rw [h.cur.1];exact hc⟩
 ·exact h.done j aA
theorem OvSt.ok {l:List Arc} {Ls:List (List Int)} {ep:Int} {F c:Nat} {J:List (List Mx)} (h:OvSt l Ls ep F F c J):OvOk l Ls F ep J:=⟨h.len,h.done⟩
theorem lk_zero {n:Nat} {l:List Arc} {bs:List Int} {L:List (List Int)} (h:NestOk n l bs L) {k:Nat} (hk:k<bs.length):lkE (n:Int) l bs L ((k:Int)+1)=0:=by
 unfold lkE;rw [if_neg (by rw [h.zero];simp),if_neg aA]
theorem cl_in {n:Nat} {l:List Arc} {bs:List Int} {L:List (List Int)} (h:NestOk n l bs L) {k c:Nat} (hk:k<bs.length) (hc:(c:Int)≤fC (L.getD k [])):clE (n:Int) l bs L ((k:Int)+1) (c:Int)=0:=by
 unfold clE
 rw [if_neg (by rw [lk_zero h hk];simp),show (((k:Int)+1).toNat - 1)=k by omega,if_neg aA]
theorem many_pos {n:Nat} {l:List Arc} {bs:List Int} {L:List (List Int)} (h:NestOk n l bs L) {k:Nat} (hk:k<bs.length):0≤fC (L.getD k [])∧fC (L.getD k [])<1024:=by
 have hl:=h.rowlen hk
 have hn:=h.n1
 have hm : (L.getD k [])[0]'aA ∈ L.getD k [] := List.getElem_mem _
 have h1:=e7 (h.right hk) h.n1.1 _ hm
 have h2:=iL hm
 omega
structure Fates (l:List Arc) (bs:List Int) (Ls:List (List Int)) (ep:Int) (O:List MRow) (fate:Nat→Nat→Int):Prop where
 is:∀ k c:Nat,k<bs.length→fate k c=0∨(fate k c=1∧k=0)∨(fate k c=2∧0<k)
 old:∀ k c:Nat,k<bs.length→(c:Int)≤fC (Ls.getD k [])→fate k c=0→k<O.length∧∃ x,((g4 O).getD k [])[c]? =some x∧MxOk l (Ls.getD k []) k (c:Int) ep x
theorem build_spec (n:Nat) (A:Option Addr) (l:List Arc) (cap:Nat) (Ab:Option Addr) (bs:List Int) (cb:Nat) (Ac:Option Addr) (R:List Row) (cc:Nat) (Ao:Option Addr) (O:List MRow) (co:Nat) (ep:Int) (ah:Nat→Nat→Int) (fi:FuncId) (al:List Value) (w:World) (hG:GN (Fr w []) w n A l Ab bs Ac R) (hO:OvRo (Fr w []) w Ao O) (he:0≤ep∧ep≤1073741824) (hf:Fates l bs (bJ R) ep O ah) (bg:∀ args w,(callFunc fi args).run Tryz.prog w= .ok (.enter fi args) w)
    (aw:∀ w',(∀ k,Fr w [] k→w'.heap[k]? =w.heap[k]?)→∀ k c:Nat,k<bs.length→(c:Int)≤fC ((bJ R).getD k [])→Meets Tryz.prog fi ([.int .i64 ((k:Int)+1),.int .i64 (c:Int)]++al) w' [] (fun u m=>u= .int .i64 (ah k c)∧m=[])):
    Meets Tryz.prog 40 [.agg #[.int .i64 (n:Int),.slice A l.length cap],.agg #[.slice Ab bs.length cb,.slice Ac R.length cc],.slice Ao O.length co,.int .i64 ep,.func (.func fi) #[] al.toArray] w [] (fun u own' =>∃ (F:List (List Mx)) (vs:List Value) (Y X:List Seg) (bo:Nat) (an:Int),u= .tuple #[.slice (some ⟨bo,0,none⟩) bs.length bs.length,.int .i64 an,.int .i64 0]∧own' =[[(bo,blk vs 141)],Y.flatten,X.flatten]∧BRep F vs Y X∧OvOk l (bJ R) bs.length ep F):=by
 have bh:=hG
 obtain ⟨hr,hok,hn,ae⟩:=bh
 obtain ⟨bk,br,hlen,bq⟩:=cF ae.g
 have hl:l.length≤9223372036854775807:=aA
 have hN:I64 (n:Int):=by constructor<;>omega
 have az:=ae.len
 rw [eZ] at az;have ax:=ae.many
 refine bG Tryz.func40 rfl Tryz.ntmps40 rfl Owns.nil<|aG fun kh1=>f_S (cZ rfl rfl fun b5=>?_)
 refine f_S (cZ rfl rfl fun b6=>?_);refine aB 3 rfl<|aD kh1<|aG fun kh2=>cN fa34_0 rfl<|c7 Tryz.isAgg25 rfl (rdA rfl)<|dY bU rfl<|f_S (e6 el53 rfl rfl bs.length rfl aA aA (List.replicate bs.length (.slice none 0 0)) (rep_flatC bs.length _).symm fun b26=>?_)
 refine aB 1 rfl<|aD kh2<|aG fun kh3=>aB 1 rfl<|aD kh3<|aV fun kh4=>aG fun ay=>aB 1 rfl<|dY sl53 rfl<|aB 1 rfl ?_
 refine aD ay<|aS ?_
 refine dF (α:=Nat×Int×List (List Mx)×List Value×List Seg×List Seg) [2,3,4,5,6,13,28] (fun ⟨k,an,F,vs,Y,X⟩=>[(29,.int .i64 (k:Int)),(14,.int .i64 an)]) (fun ⟨k,an,F,vs,Y,X⟩=>[[(b26,blk vs 141)],Y.flatten,X.flatten,[(b5,blk [.int .i64 (n:Int),.slice A l.length cap] 24)],[(b6,blk [.slice Ab bs.length cb,.slice Ac R.length cc] 34)]]) (fun ⟨k,an,F,vs,Y,X⟩=>k≤bs.length∧BRep F vs Y X∧OvSt l (bJ R) ep bs.length k 0 F) (fun ⟨k,an,F,vs,Y,X⟩=>bs.length - k) (0,0,List.replicate bs.length [],List.replicate bs.length (.slice none 0 0),List.replicate bs.length [],[]) ?_ ?_ ?_ ?_
 · exact aF
 · dsimp only
   rw [show (List.replicate bs.length ([]:Seg)).flatten=[] from by simp,show ([]:List Seg).flatten=[] from rfl];exact aC
 · exact ⟨Nat.zero_le _,BRep.start _,OvSt.start _ _ _ _⟩
 ·
  rintro ⟨k,an,F,vs,Y,X⟩ ⟨bt,hB,hS⟩;refine aG fun kh6=>aB 1 rfl<|aD kh6<|aV fun kh7=>aX rfl (fun ba=>?_) (fun ba=>?_)
  ·
   have hk:k<bs.length:=aA
   refine bZ kh7<|aV fun kh8=>aS<|aG fun kh9=>aB 2 rfl<|aD kh9<|aG fun kh10=>f_Q (aQ (vs:=[_,_]) Tryz.isAgg24 Tryz.sizeOf24 rfl rfl ⟨(rdA rfl),(rdA rfl),trivial⟩)<|f_Q (aQ (vs:=[_,_]) Tryz.isAgg34 Tryz.sizeOf34 rfl rfl ⟨(rdA rfl),(rdA rfl),trivial⟩)<|aB 1 rfl ?_
   refine f_Q (bF rfl rfl) ?_;refine f_S (aW Tryz.call72 rfl (fun w_ ac=>NMany_spec (n:Int) A l cap Ab bs cb Ac R cc ((k:Int)+1) w_ (hr.up0 ac) hl hN hok (hn.up0 ac)) ?_);rintro _ _ ⟨rfl,rfl⟩;rw [lk_zero ae hk,if_neg aO,show (((k:Int)+1).toNat - 1)=k by omega];have bi:=many_pos ae hk
   obtain ⟨mN,bf⟩:∃ m:Nat,fC ((bJ R).getD k [])+1=(m:Int):=⟨(fC ((bJ R).getD k [])+1).toNat,aA⟩
   rw [bf];dsimp only [aK,aJ];refine aB 5 rfl<|aD kh10<|aV fun kh11=>aG fun kh12=>aB 2 rfl<|aD kh12<|d4 rfl aO<|bZ kh11<|aG fun kh13=>aB 2 rfl ?_
   refine aD kh13<|aS ?_
   refine dF (α:=Nat×Int×List (List Mx)×List Value×List Seg×List Seg) [2,3,4,5,6,13,15,28,29,43] (fun ⟨c,an,F,vs,Y,X⟩=>[(44,.int .i64 (c:Int)),(14,.int .i64 an)]) (fun ⟨c,an,F,vs,Y,X⟩=>[[(b26,blk vs 141)],Y.flatten,X.flatten,[(b5,blk [.int .i64 (n:Int),.slice A l.length cap] 24)],[(b6,blk [.slice Ab bs.length cb,.slice Ac R.length cc] 34)]]) (fun ⟨c,an,F,vs,Y,X⟩=>c≤mN∧BRep F vs Y X∧OvSt l (bJ R) ep bs.length k c F) (fun ⟨c,an,F,vs,Y,X⟩=>mN - c) (0,an,F,vs,Y,X) ?_ ?_ ?_ ?_
   · exact aF
   · exact aC
   · exact ⟨Nat.zero_le _,hB,hS⟩
   ·
    rintro ⟨c,an,F,vs,Y,X⟩ ⟨bj,hB,hS⟩;refine fJ (e:=[(44,_),(14,_),(2,_),(3,_),(4,_),(5,_),(6,_),(13,_),(15,_),(28,_),(29,_),(43,_)]) aF ?_;refine aG fun kh14=>aB 1 rfl<|aD kh14<|aV fun kh15=>aX rfl (fun be=>?_) (fun be=>?_)
    ·
     have hc:c<mN:=aA
     refine bZ kh15<|aV fun kh16=>aS<|aG fun kh17=>aB 2 rfl<|aD kh17<|aG fun kh18=>aB 2 rfl<|aD kh18<|aG fun kh19=>?_
     refine aB 2 rfl<|f_Q (bF rfl rfl)<|aB 1 rfl ?_
     refine f_S (jE [] _ bg rfl rfl Sub.refl (fun w_ ac=>(by have h:=aw w_ (fun k hk=>ac.same k hk) k c hk aA;exact h)) ?_);rintro _ _ ⟨rfl,rfl⟩;dsimp only [aK,aJ];refine aB 1 rfl<|aD kh19<|aV fun kh20=>aG fun kh21=>aB 2 rfl<|aD kh21<|aX rfl (fun c54=>?_) (fun c54=>?_)
     ·
      refine aI<|aB 2 rfl<|aD kh20<|aG fun kh22=>f_Q (aQ (vs:=[_,_]) Tryz.isAgg24 Tryz.sizeOf24 rfl rfl ⟨(rdA rfl),(rdA rfl),trivial⟩)<|f_Q (aQ (vs:=[_,_]) Tryz.isAgg34 Tryz.sizeOf34 rfl rfl ⟨(rdA rfl),(rdA rfl),trivial⟩)<|aB 2 rfl<|f_Q (bF rfl rfl)<|aB 3 rfl ?_
      refine f_S (aW Tryz.call73 rfl (fun w_ ac=>(by
        exact made_spec n A l cap Ab bs cb Ac R cc Ao O co ((k:Int)+1) (c:Int) ep (ah k c) k w_ (hG.up0 ac) (hO.up0 ac) rfl (cl_in ae hk aA) he (fun h=>aA) (fun h=>aA) (fun _ _=>by rw [Int.toNat_natCast];exact hf.old k c hk aA c54))) ?_)
      rintro _ _ ⟨x,mx,rfl,rfl,ad,aj⟩;dsimp only [aK,aJ];refine aB 3 rfl<|f_S (cX Tryz.zeroValue138 rfl fun b21=>?_)
      refine f_Z (bS Tryz.sizeOf138 rfl rfl rfl rfl cG (gW x) rfl ?_);refine aB 1 rfl<|aD kh22<|aV fun kh23=>aG fun aq=>aB 2 rfl<|aD aq<|d4 rfl aO<|bZ kh23 ?_
      obtain ⟨rv,rm,rG,ak,ag,am,U⟩:=hB.split (k:=k) (by rw [hS.len];exact hk)
      obtain ⟨Ar,cr,rfl,av⟩:=ag.val
      have bc:=hS.cur.1
      have ai:=hB.lv
      refine eP (Sub.splitF am)<|cQ [[(b21,blk (gW x) 138)]] rfl<|f_T 0 rfl (aR rfl)<|f_T 1 rfl (aR rfl)<|f_T 2 rfl (aR rfl)<|f_T 3 rfl (aR rfl)<|f_T 4 rfl (aM sl53 rfl rfl (k))<|f_T 6 rfl (aQ (vs:=gW x) Tryz.isAgg138 Tryz.sizeOf138 rfl rfl rdsBlk)<|gD 5 7 rfl rfl aU rfl rfl rfl rfl rfl rfl ?_ ?_
      ·
       refine (aH Tryz.isAgg141 rfl (rdA ak)).does ⟨aC,?_⟩;refine f_O 7 rfl (bX el141 aA rfl rfl rfl fun ao=>⟨aC,?_⟩);refine f_O 8 rfl (dJ el141 rfl rfl ag (ys:=(gW x)) rdsBlk rfl (mx_one _) aA aA fun ap aa J=>⟨aC,?_⟩);obtain ⟨Z,ab,rfl,_⟩:=J.val
       refine f_T 9 rfl (aM sl53 rfl rfl (k))<|fX 10 rfl (bQ Tryz.sizeOf141 rfl rfl rfl rfl (by rw [ai,hS.len];omega) (vs.set k (.slice Z ((F.getD k []).length+1) ab)) rfl ⟨aC,?_⟩)
       refine cO aU<|dI<|bP kh16<|aI<|f_Q (bF rfl rfl)<|aB 1 rfl<|aY<|gN (Sub.joinF (m:=aa) (G' :=rG) (U x _ _ mx J ad).2)<|gN (Sub.joinF (m:=mx) (G' :=X.flatten) nO) ?_
       refine cV (a6 (c+1,an,F.set k (F.getD k []++[x]),vs.set k (.slice Z ((F.getD k []).length+1) ab),Y.set k aa,X++[mx]) (by first|omega|(dsimp only;omega)|(simp;omega)) ⟨aA,(U x _ _ mx J ad).1,hS.add hk aj⟩ ?_ ?_ ?_)
       · exact aF
       · exact aF
       · exact aC
      ·
       refine (bX el141 aA rfl rfl rfl fun ao=>⟨aC,?_⟩);refine f_O 5 rfl ((aH Tryz.isAgg141 rfl (rdA ak)).does ⟨aC,?_⟩);refine f_O 8 rfl (dJ el141 rfl rfl ag (ys:=(gW x)) rdsBlk rfl (mx_one _) aA aA fun ap aa J=>⟨aC,?_⟩);obtain ⟨Z,ab,rfl,_⟩:=J.val
       refine f_T 9 rfl (aM sl53 rfl rfl (k))<|fX 10 rfl (bQ Tryz.sizeOf141 rfl rfl rfl rfl (by rw [ai,hS.len];omega) (vs.set k (.slice Z ((F.getD k []).length+1) ab)) rfl ⟨aC,?_⟩)
       refine cO aU<|dI<|bP kh16<|aI<|f_Q (bF rfl rfl)<|aB 1 rfl<|aY<|gN (Sub.joinF (m:=aa) (G' :=rG) (U x _ _ mx J ad).2)<|gN (Sub.joinF (m:=mx) (G' :=X.flatten) nO) ?_
       refine cV (a6 (c+1,an,F.set k (F.getD k []++[x]),vs.set k (.slice Z ((F.getD k []).length+1) ab),Y.set k aa,X++[mx]) (by first|omega|(dsimp only;omega)|(simp;omega)) ⟨aA,(U x _ _ mx J ad).1,hS.add hk aj⟩ ?_ ?_ ?_)
       · exact aF
       · exact aF
       · exact aC
     ·
      refine aI<|aB 1 rfl<|f_Q (kY rfl rfl _ rfl)<|aB 1 rfl<|aD kh20<|aG fun kh25=>f_Q (aQ (vs:=[_,_]) Tryz.isAgg24 Tryz.sizeOf24 rfl rfl ⟨(rdA rfl),(rdA rfl),trivial⟩)<|f_Q (aQ (vs:=[_,_]) Tryz.isAgg34 Tryz.sizeOf34 rfl rfl ⟨(rdA rfl),(rdA rfl),trivial⟩)<|aB 2 rfl<|f_Q (bF rfl rfl) ?_
      refine aB 3 rfl ?_
      refine f_S (aW Tryz.call73 rfl (fun w_ ac=>(by
        obtain ⟨O',bp,ar,a1⟩:=hB.ro b26 ac (by rw [hS.len];omega)
        have a2:O'.length=bs.length:=by rw [← nC,ar,hS.len]
        have h:=made_spec n A l cap Ab bs cb Ac R cc (some ⟨b26,0,none⟩) O' bs.length ((k:Int)+1) (c:Int) ep (ah k c) k w_ (hG.up0 ac) a1 rfl (cl_in ae hk aA) he (fun h=>by have:=hf.is k c hk;omega) (fun h=>by
          have:=hf.is k c hk
          refine ⟨k - 1,aA,aA,?_⟩
          rw [ar];exact (hS.done (k - 1) aA).1) (fun h1 h2=>by have:=hf.is k c hk;omega)
        rw [a2] at h;exact h)) ?_)
      rintro _ _ ⟨x,mx,rfl,rfl,ad,aj⟩;dsimp only [aK,aJ];refine aB 3 rfl<|f_S (cX Tryz.zeroValue138 rfl fun b21=>?_)
      refine f_Z (bS Tryz.sizeOf138 rfl rfl rfl rfl cG (gW x) rfl ?_);refine aB 1 rfl<|aD kh25<|aV fun kh26=>aG fun au=>aB 2 rfl<|aD au<|d4 rfl aO<|bZ kh26 ?_
      obtain ⟨rv,rm,rG,ak,ag,am,U⟩:=hB.split (k:=k) (by rw [hS.len];exact hk)
      obtain ⟨Ar,cr,rfl,av⟩:=ag.val
      have bc:=hS.cur.1
      have ai:=hB.lv
      refine eP (Sub.splitF am)<|cQ [[(b21,blk (gW x) 138)]] rfl<|f_T 0 rfl (aR rfl)<|f_T 1 rfl (aR rfl)<|f_T 2 rfl (aR rfl)<|f_T 3 rfl (aR rfl)<|f_T 4 rfl (aM sl53 rfl rfl (k))<|f_T 6 rfl (aQ (vs:=gW x) Tryz.isAgg138 Tryz.sizeOf138 rfl rfl rdsBlk)<|gD 5 7 rfl rfl aU rfl rfl rfl rfl rfl rfl ?_ ?_
      ·
       refine (aH Tryz.isAgg141 rfl (rdA ak)).does ⟨aC,?_⟩;refine f_O 7 rfl (bX el141 aA rfl rfl rfl fun ao=>⟨aC,?_⟩);refine f_O 8 rfl (dJ el141 rfl rfl ag (ys:=(gW x)) rdsBlk rfl (mx_one _) aA aA fun ap aa J=>⟨aC,?_⟩);obtain ⟨Z,ab,rfl,_⟩:=J.val
       refine f_T 9 rfl (aM sl53 rfl rfl (k))<|fX 10 rfl (bQ Tryz.sizeOf141 rfl rfl rfl rfl (by rw [ai,hS.len];omega) (vs.set k (.slice Z ((F.getD k []).length+1) ab)) rfl ⟨aC,?_⟩)
       refine cO aU<|dI<|bP kh16<|aI<|f_Q (bF rfl rfl)<|aB 1 rfl<|aY<|gN (Sub.joinF (m:=aa) (G' :=rG) (U x _ _ mx J ad).2)<|gN (Sub.joinF (m:=mx) (G' :=X.flatten) nO) ?_
       refine cV (a6 (c+1,IntKind.i64.wrap (an+1),F.set k (F.getD k []++[x]),vs.set k (.slice Z ((F.getD k []).length+1) ab),Y.set k aa,X++[mx]) (by first|omega|(dsimp only;omega)|(simp;omega)) ⟨aA,(U x _ _ mx J ad).1,hS.add hk aj⟩ ?_ ?_ ?_)
       · exact aF
       · exact aF
       · exact aC
      ·
       refine (bX el141 aA rfl rfl rfl fun ao=>⟨aC,?_⟩);refine f_O 5 rfl ((aH Tryz.isAgg141 rfl (rdA ak)).does ⟨aC,?_⟩);refine f_O 8 rfl (dJ el141 rfl rfl ag (ys:=(gW x)) rdsBlk rfl (mx_one _) aA aA fun ap aa J=>⟨aC,?_⟩);obtain ⟨Z,ab,rfl,_⟩:=J.val
       refine f_T 9 rfl (aM sl53 rfl rfl (k))<|fX 10 rfl (bQ Tryz.sizeOf141 rfl rfl rfl rfl (by rw [ai,hS.len];omega) (vs.set k (.slice Z ((F.getD k []).length+1) ab)) rfl ⟨aC,?_⟩)
       refine cO aU<|dI<|bP kh16<|aI<|f_Q (bF rfl rfl)<|aB 1 rfl<|aY<|gN (Sub.joinF (m:=aa) (G' :=rG) (U x _ _ mx J ad).2)<|gN (Sub.joinF (m:=mx) (G' :=X.flatten) nO) ?_
       refine cV (a6 (c+1,IntKind.i64.wrap (an+1),F.set k (F.getD k []++[x]),vs.set k (.slice Z ((F.getD k []).length+1) ab),Y.set k aa,X++[mx]) (by first|omega|(dsimp only;omega)|(simp;omega)) ⟨aA,(U x _ _ mx J ad).1,hS.add hk aj⟩ ?_ ?_ ?_)
       · exact aF
       · exact aF
       · exact aC
    ·
     obtain rfl:c=mN:=aA
     refine cS<|cU<|cU<|eH<|dI<|bP kh8<|aI<|f_Q (bF rfl rfl)<|aB 1 rfl<|aY ?_
     refine cV (a6 (k+1,an,F,vs,Y,X) (by first|omega|(dsimp only;omega)|(simp;omega)) ⟨aA,hB,hS.up aA⟩ ?_ ?_ ?_)
     · exact aF
     · exact aF
     · exact aC
  ·
   obtain rfl:k=bs.length:=aA
   refine cS<|cU<|cU<|eH<|bP kh4<|aG fun kh28=>aB 5 rfl<|aD kh28<|aZ ?_
   exact lA [[(b26,blk vs 141)],Y.flatten,X.flatten] Tryz.results40 rfl rfl rfl aC ⟨F,vs,Y,X,b26,an,rfl,rfl,hB,hS.ok⟩
theorem All1_spec (q c:Int) (w:World):Meets Tryz.prog 41 [.int .i64 q,.int .i64 c] w [] (fun u m=>u= .int .i64 (if q=1 then 1 else 2)∧m=[]):=by
 refine bG Tryz.func41 rfl Tryz.ntmps41 rfl Owns.nil<|aG fun kh1=>aB 1 rfl<|aD kh1<|aV fun kh2=>aG fun kh3=>aB 2 rfl<|aD kh3<|aX rfl (fun c6=>?_) (fun c6=>?_)
 ·refine aG fun F=>aB 1 rfl<|aD F<|aZ<|dA ?_
  exact bO [] Tryz.results41 rfl aP ⟨by rw [if_pos c6],rfl⟩
 ·refine bZ kh2<|aG fun kh5=>aB 1 rfl<|aD kh5<|aZ ?_
  exact bO [] Tryz.results41 rfl aP ⟨by rw [if_neg c6],rfl⟩
theorem All_spec (n:Nat) (A:Option Addr) (l:List Arc) (cap:Nat) (Ab:Option Addr) (bs:List Int) (cb:Nat) (Z:Option Addr) (R:List Row) (cc:Nat) (ep:Int) (w:World) (hG:GN (Fr w []) w n A l Ab bs Z R) (he:0≤ep∧ep≤1073741824):
    Meets Tryz.prog 14 [.agg #[.int .i64 (n:Int),.slice A l.length cap],.agg #[.slice Ab bs.length cb,.slice Z R.length cc],.int .i64 ep] w [] (fun u own' =>∃ (Y:List (List Mx)) (vs:List Value) (O U:List Seg) (bo:Nat),u= .tuple #[.slice (some ⟨bo,0,none⟩) bs.length bs.length,.int .i64 0]∧own' =[[(bo,blk vs 141)],O.flatten,U.flatten]∧BRep Y vs O U∧OvOk l (bJ R) bs.length ep Y):=by
 have ac:=hG
 obtain ⟨hr,hok,hn,J⟩:=ac
 obtain ⟨ag,ah,hlen,ae⟩:=cF J.g
 have hl:l.length≤9223372036854775807:=aA
 have hN:I64 (n:Int):=by constructor<;>omega
 have aa:=J.len
 rw [eZ] at aa;have ab:=J.many
 refine bG Tryz.func14 rfl Tryz.ntmps14 rfl Owns.nil<|aG fun kh1=>f_S (cZ rfl rfl fun b3=>?_)
 refine f_S (cZ rfl rfl fun b4=>?_);refine aB 2 rfl<|aD kh1<|aV fun kh2=>aG fun kh3=>f_Q (aQ (vs:=[_,_]) Tryz.isAgg24 Tryz.sizeOf24 rfl rfl ⟨(rdA rfl),(rdA rfl),trivial⟩)<|f_Q (aQ (vs:=[_,_]) Tryz.isAgg34 Tryz.sizeOf34 rfl rfl ⟨(rdA rfl),(rdA rfl),trivial⟩) ?_
 refine f_S (aW Tryz.call38 rfl (fun X F=>oO (n:Int) A l cap Ab bs cb Z R cc X (hr.up0 F) hl hN hok (hn.up0 F)) ?_);rintro _ _ ⟨rfl,rfl⟩;rw [J.zero];dsimp only [aK,aJ];refine aB 5 rfl<|aD kh3<|aG fun kh4=>aB 2 rfl<|aD kh4<|d4 rfl aO<|bZ kh2<|aV fun kh5=>aG fun kh6=>aB 1 rfl ?_
 refine f_S (aW Tryz.call39 rfl (fun X F=>oepochs_spec ep X he) ?_);rintro _ _ ⟨rfl,rfl⟩;dsimp only [aK,aJ];refine aB 1 rfl<|aD kh6<|h7 rfl<|bZ kh5<|aG fun kh7=>f_Q (aQ (vs:=[_,_]) Tryz.isAgg24 Tryz.sizeOf24 rfl rfl ⟨(rdA rfl),(rdA rfl),trivial⟩)<|f_Q (aQ (vs:=[_,_]) Tryz.isAgg34 Tryz.sizeOf34 rfl rfl ⟨(rdA rfl),(rdA rfl),trivial⟩)<|aB 1 rfl ?_
 refine f_S (aW Tryz.call40 rfl (fun X F=>build_spec n A l cap Ab bs cb Z R cc none [] 0 ep (fun k _=>if k=0 then 1 else 2) 41 [] X (hG.up0 F) (OvRo.nil _ _) he ⟨fun k c _=>by by_cases h:k=0<;>simp [h]<;>omega,fun k c _ _ h=>by by_cases h' :k=0<;>simp [h'] at h⟩ Tryz.call41 (fun w' _ k c _ _=>by have h:=All1_spec ((k:Int)+1) (c:Int) w';by_cases hk:k=0;(rw [if_pos aA] at h;rw [if_pos hk];exact h);(rw [if_neg aA] at h;rw [if_neg hk];exact h))) ?_);rintro _ _ ⟨Y,vs,O,U,bo,an,rfl,rfl,hB,ad⟩;dsimp only [aK,aJ];refine aB 7 rfl<|aD kh7<|aG fun kh8=>aB 4 rfl<|aD kh8<|aZ ?_
 exact dB [[(bo,blk vs 141)],O.flatten,U.flatten] Tryz.results14 rfl rfl aC ⟨Y,vs,O,U,bo,rfl,rfl,hB,ad⟩
structure OvFit (l:List Arc) (Ls:List (List Int)) (nb:Nat) (ep:Int) (Os:List (List Mx)):Prop where
 len:Os.length=nb
 row:∀ k,k<nb→((Os.getD k []).length:Int)=fC (Ls.getD k [])+1
 at_:∀ (k c:Nat) (x:Mx),k<nb→(Os.getD k [])[c]? =some x→x.lv=(k:Int)+1∧x.cl=(c:Int)∧(0≤x.ep∧x.ep≤ep)∧x.D.length=(bdL (Ls.getD k []) (c:Int) l).length*(bdL (Ls.getD k []) (c:Int) l).length
theorem OvOk.fit {l l' :List Arc} {Ls:List (List Int)} {J:Nat} {ep:Int} {F:List (List Mx)} (h:OvOk l Ls J ep F) (he:SameEnds l l'):OvFit l' Ls J ep F:=
 ⟨h.len,fun k hk=>(h.row k hk).2,fun k c x hk hx=>by
  have hlen:=(h.row k hk).2
  have hc:c<(F.getD k []).length:=(List.getElem?_eq_some_iff.1 hx).1
  obtain ⟨y,h1,h2⟩:=(h.row k hk).1 c aA
  rw [hx] at h1;obtain rfl:=Option.some.inj h1
  rw [bdL_ends he]
  exact ⟨h2.lv,h2.cl,h2.ep,h2.mat.len⟩⟩
theorem SameEnds.refl (l:List Arc):SameEnds l l:=⟨rfl,fun _ _ _=>⟨rfl,rfl⟩⟩
theorem oCheck_spec (n:Nat) (A:Option Addr) (l:List Arc) (cap:Nat) (Ab:Option Addr) (bs:List Int) (cb:Nat) (Ac:Option Addr) (R:List Row) (cc:Nat) (Ao:Option Addr) (O:List MRow) (co:Nat) (ep:Int) (w:World) (hG:GN (Fr w []) w n A l Ab bs Ac R) (hO:OvRo (Fr w []) w Ao O) (he:ep≤1073741824) (hF:OvFit l (bJ R) bs.length ep (g4 O)):
    Meets Tryz.prog 42 [.agg #[.int .i64 (n:Int),.slice A l.length cap],.agg #[.slice Ab bs.length cb,.slice Ac R.length cc],.slice Ao O.length co] w [] (fun u own' =>u= .int .i64 0∧own' =[]):=by
 have aq:=hG
 obtain ⟨hr,hok,hn,X⟩:=aq
 obtain ⟨be,bf,hlen,ba⟩:=cF X.g
 have hl:l.length≤9223372036854775807:=aA
 have hN:I64 (n:Int):=by constructor<;>omega
 have al:=X.len
 rw [eZ] at al;have ap:=X.many
 have ao:=hF.len
 rw [nC] at ao;refine bG Tryz.func42 rfl Tryz.ntmps42 rfl Owns.nil<|aG fun kh1=>f_S (cZ rfl rfl fun b3=>?_)
 refine f_S (cZ rfl rfl fun b4=>?_);refine aB 1 rfl<|aD kh1<|aV fun kh2=>aG fun kh3=>f_Q (aQ (vs:=[_,_]) Tryz.isAgg24 Tryz.sizeOf24 rfl rfl ⟨(rdA rfl),(rdA rfl),trivial⟩)<|f_Q (aQ (vs:=[_,_]) Tryz.isAgg34 Tryz.sizeOf34 rfl rfl ⟨(rdA rfl),(rdA rfl),trivial⟩) ?_
 refine f_S (aW Tryz.call38 rfl (fun w_ J=>oO (n:Int) A l cap Ab bs cb Ac R cc w_ (hr.up0 J) hl hN hok (hn.up0 J)) ?_);rintro _ _ ⟨rfl,rfl⟩;rw [X.zero];dsimp only [aK,aJ];refine aB 5 rfl<|aD kh3<|aG fun kh4=>aB 2 rfl<|aD kh4<|d4 rfl aO<|bZ kh2<|aV fun kh5=>aG fun kh6=>aB 1 rfl ?_
 refine dY sl53 rfl<|cN fa34_0 rfl<|c7 Tryz.isAgg25 rfl (rdA rfl)<|dY bU rfl<|aB 1 rfl<|aD kh6<|d4 rfl aA<|bZ kh5<|aV fun kh7=>aG fun au=>?_
 refine aB 1 rfl<|dY sl53 rfl<|aB 1 rfl<|aD au<|aS ?_
 refine dF (α:=Nat) [3,4,30,31] (fun k=>[(32,.int .i64 (k:Int))]) (fun k=>[[(b3,blk [.int .i64 (n:Int),.slice A l.length cap] 24)],[(b4,blk [.slice Ab bs.length cb,.slice Ac R.length cc] 34)]]) (fun k=>k≤O.length) (fun k=>O.length - k) (0) ?_ ?_ ?_ ?_
 ·exact aF
 ·exact aC
 ·exact Nat.zero_le _
 ·rintro k bg;refine aG fun kh9=>aB 1 rfl<|aD kh9<|aV fun kh10=>aX rfl (fun ay=>?_) (fun ay=>?_)
  ·have hk:k<bs.length:=aA
   have aa:k<O.length:=aA
   obtain ⟨bo,oo,rfl,am,aw⟩:=hO.o (gX aa)
   have ae:=(hO.rows _ (List.getElem_mem aa)).1
   obtain ⟨r,ab⟩:∃ r,O[k]=r:=⟨_,rfl⟩
   rw [ab] at ae;obtain ⟨Ar,row,cr⟩:=r
   dsimp only at ae;refine bZ kh10<|aV fun kh11=>aS<|aG fun kh12=>aB 1 rfl<|f_Q (aM sl53 rfl rfl (oo+k))<|f_Q (aH Tryz.isAgg141 rfl (show Rd _ _ _ _ _ (.slice Ar row.length cr) from (show Rd _ _ _ _ _ (mrV (Ar,row,cr)) by rw [← ab];exact eC (enc:=mrV) am aw aa))) ?_
   refine aB 2 rfl<|aD kh12<|aG fun kh13=>f_Q (aQ (vs:=[_,_]) Tryz.isAgg24 Tryz.sizeOf24 rfl rfl ⟨(rdA rfl),(rdA rfl),trivial⟩)<|f_Q (aQ (vs:=[_,_]) Tryz.isAgg34 Tryz.sizeOf34 rfl rfl ⟨(rdA rfl),(rdA rfl),trivial⟩)<|aB 1 rfl<|f_Q (bF rfl rfl) ?_
   refine f_S (aW Tryz.call72 rfl (fun w_ J=>NMany_spec (n:Int) A l cap Ab bs cb Ac R cc ((k:Int)+1) w_ (hr.up0 J) hl hN hok (hn.up0 J)) ?_);rintro _ _ ⟨rfl,rfl⟩;rw [lk_zero X hk,if_neg aO,show (((k:Int)+1).toNat - 1)=k by omega];have a2:=many_pos X hk
   have ah:=hF.row k hk
   rw [nK aa,ab] at ah;dsimp only at ah;dsimp only [aK,aJ];refine aB 5 rfl<|aD kh13<|aV fun kh14=>aG fun ai=>aB 3 rfl<|i4 47 rfl aO<|aB 1 rfl<|eI rfl rfl (iZ sl141 rfl)<|aB 3 rfl<|aD ai ?_
   refine d4 rfl aA<|bZ kh14<|aG fun kh16=>aB 1 rfl<|dY sl141 rfl<|aB 1 rfl<|aD kh16<|aS ?_
   refine dF (α:=Nat) [3,4,9,30,31,32,53,54] (fun c=>[(55,.int .i64 (c:Int))]) (fun c=>[[(b3,blk [.int .i64 (n:Int),.slice A l.length cap] 24)],[(b4,blk [.slice Ab bs.length cb,.slice Ac R.length cc] 34)]]) (fun c=>c≤row.length) (fun c=>row.length - c) (0) ?_ ?_ ?_ ?_
   ·exact aF
   ·exact aC
   ·exact Nat.zero_le _
   ·rintro c az;refine fJ (e:=[(55,_),(3,_),(4,_),(9,_),(30,_),(31,_),(32,_),(53,_),(54,_)]) aF ?_;refine aG fun kh17=>aB 1 rfl<|aD kh17<|aV fun kh18=>aX rfl (fun ax=>?_) (fun ax=>?_)
    ·have ad:c<row.length:=aA
     obtain ⟨br,or,rfl,ar,ak⟩:=ae (fH gW kC aA ad)
     obtain ⟨x,hx⟩:∃ x,row[c]=x:=⟨_,rfl⟩
     obtain ⟨Y,U,Z,xA,xD,F⟩:=x
     have ac:=hF.at_ k c ⟨Y,U,Z,xA,xD,F⟩ hk (by rw [nK aa,ab];dsimp only;rw [List.getElem?_eq_getElem ad,hx])
     dsimp only at ac;obtain ⟨ag,aj,⟨av,bc⟩,an⟩:=ac
     refine bZ kh18<|aV fun kh19=>aS<|aG fun kh20=>aB 1 rfl<|f_Q (aM sl141 rfl rfl (or+c*4))<|f_Q (aQ (vs:=[.int .i64 Y,.int .i64 U,.int .i64 Z,.slice xA xD.length F]) Tryz.isAgg138 Tryz.sizeOf138 rfl rfl (show Rds _ _ _ _ _ (gW ⟨Y,U,Z,xA,xD,F⟩) by rw [← hx];exact gV kC ar ak ad)) ?_
     refine f_S (cX Tryz.zeroValue138 rfl fun a1=>?_);refine aB 1 rfl<|f_Z (bS Tryz.sizeOf138 rfl rfl rfl rfl cG [.int .i64 Y,.int .i64 U,.int .i64 Z,.slice xA xD.length F] rfl ?_)
     refine aD kh20<|aG fun kh21=>cN fa138_0 rfl<|c7 Tryz.isAgg3 rfl (rdA rfl)<|aB 1 rfl<|f_Q (bF rfl rfl)<|aB 2 rfl<|i4 65 rfl aA<|eI rfl rfl (aT fa138_1 rfl)<|eI rfl rfl (aH Tryz.isAgg3 rfl (rdA rfl)) ?_
     refine aB 4 rfl<|i4 71 rfl aA<|eI rfl rfl (aQ (vs:=[_,_]) Tryz.isAgg24 Tryz.sizeOf24 rfl rfl ⟨(rdA rfl),(rdA rfl),trivial⟩)<|eI rfl rfl (aQ (vs:=[_,_]) Tryz.isAgg34 Tryz.sizeOf34 rfl rfl ⟨(rdA rfl),(rdA rfl),trivial⟩)<|eI rfl rfl (aQ (vs:=[_,_,_,_]) Tryz.isAgg138 Tryz.sizeOf138 rfl rfl ⟨(rdA rfl),(rdA rfl),(rdA rfl),(rdA rfl),trivial⟩) ?_
     refine k9 rfl rfl rfl rfl rfl (aW Tryz.call74 rfl (fun w_ J=>qCheck_spec n A l cap Ab bs cb Ac R cc ⟨Y,U,Z,xA,xD,F⟩ w_ (hG.up0 J) (by show clE _ _ _ _ Y U=0;rw [ag,aj];exact cl_in X hk aA) ⟨av,by show Z≤_;omega⟩ (by show xD.length=(bdL ((bJ R).getD (Y.toNat - 1) []) U l).length*_;rw [ag,aj,show (((k:Int)+1).toNat - 1)=k by omega];exact an)) ?_);rintro _ _ ⟨rfl,rfl⟩;dsimp only [aK,aJ];refine aB 2 rfl<|aD kh21<|d4 rfl aO<|dZ<|dI<|bP kh19<|aI<|f_Q (bF rfl rfl)<|aB 1 rfl<|aY ?_
     refine cV (a6 (c+1) (by first|omega|(dsimp only;omega)|(simp;omega)) aA ?_ ?_ ?_)
     ·exact aF
     ·exact aF
     ·exact aC
    ·refine cS<|cU<|cU<|eH<|dI<|bP kh11<|aI<|f_Q (bF rfl rfl)<|aB 1 rfl<|aY ?_
     refine cV (a6 (k+1) (by first|omega|(dsimp only;omega)|(simp;omega)) aA ?_ ?_ ?_)
     ·exact aF
     ·exact aF
     ·exact aC
  ·refine cS<|cU<|cU<|eH<|bP kh7<|aG fun kh22=>aB 1 rfl<|aD kh22<|aZ ?_
   exact bO [] Tryz.results42 rfl aP ⟨rfl,rfl⟩
def TblR (n:Nat) (E:List Arc) (b:Nat) (m:Seg):Prop:=
 ∃ ents c vs ms,m.Perm ([[(b,e9 iO ents c)],(ms:List Seg).flatten]:List Seg).flatten∧LinkR 113 n E ents vs ms
theorem TblR.mk {n:Nat} {E:List Arc} {b c:Nat} {ents:List (Int×Value×Nat)} {vs:List Value} {ms:List Seg} (h:LinkR 113 n E ents vs ms):TblR n E b ([[(b,e9 iO ents c)],ms.flatten]:List Seg).flatten:=⟨ents,c,vs,ms,List.Perm.refl _,h⟩
def putE (E:List Arc) (a:Arc):List Arc:=if a.wt<INF then E++[a] else E
theorem n9 (E:List Arc) (a:Arc) (b:Bool):(E++[a]).map (trn b)=E.map (trn b)++[trn b a]:=aO
theorem apV_down {L:List (List Int)} {u v k:Nat}:∀ {K:Nat},k≤K→(∀ j,k≤j→j<K→(L.getD j []).getD u 0=(L.getD j []).getD v 0)→apV L u v K=apV L u v k
 |0,h,_=>by rw [show k=0 by omega]
 |K+1,h,he=>by
  by_cases e:k=K+1
  ·rw [e]
  ·rw [show apV L u v (K+1)=(if (L.getD K []).getD u 0≠(L.getD K []).getD v 0 then K+1 else apV L u v K) from rfl,if_neg (fun F=>F (he K aA aA))]
   exact apV_down aA fun j h1 h2=>he j h1 aA
def fstI (L:List Int) (c:Int):Int:=match L.findIdx? (fun x=>decide (x=c)) with
 |some i=>(i:Int)
 |none=> -1
theorem fstI_at {L:List Int} {c:Int} {k:Nat} (hk:k<L.length) (he:L[k]=c) (h:∀ j (hj:j<L.length),j<k→L[j]≠c):fstI L c=(k:Int):=by
 have:L.findIdx? (fun x=>decide (x=c))=some k:=by
  rw [List.findIdx?_eq_some_iff_getElem];exact ⟨hk,by simp [he],fun j hj=>by simpa using h j aA hj⟩
 unfold fstI;rw [this]
theorem fstI_none {L:List Int} {c:Int} (h:∀ j (hj:j<L.length),L[j]≠c):fstI L c= -1:=by
 have:L.findIdx? (fun x=>decide (x=c))=none:=by
  rw [List.findIdx?_eq_none_iff];intro x hx;obtain ⟨j,hj,rfl⟩:=List.mem_iff_getElem.1 hx
  simpa using h j hj
 unfold fstI;rw [this]
theorem fstI_in {L:List Int} {c:Int} (h:c∈L):∃ v:Nat,fstI L c=(v:Int)∧v<L.length∧L.getD v 0=c:=by
 cases e:L.findIdx? (fun x=>decide (x=c)) with
 |none=>
  rw [List.findIdx?_eq_none_iff] at e;have:=e c h
  simp at this
 |some i=>
  have e2:=e
  rw [List.findIdx?_eq_some_iff_getElem] at e2;obtain ⟨h1,h2,_⟩:=e2
  exact ⟨i,by unfold fstI;rw [e],h1,by rw [eJ h1];simpa using h2⟩
def cqC (l:List Arc) (L:List Int) (p:Int→Bool) (row:List Mx) (c:Nat):List Arc:=(List.range c).flatMap fun j:Nat=>if p (fstI L (j:Int)) then mxE (bdL L (j:Int) l) (row[j]?.getD ⟨0,0,0,none,[],0⟩).D (row[j]?.getD ⟨0,0,0,none,[],0⟩).D.length else []
theorem cqC_next {l:List Arc} {L:List Int} {p:Int→Bool} {row:List Mx} {c:Nat} (hc:c<row.length):cqC l L p row (c+1)=cqC l L p row c++if p (fstI L (c:Int)) then mxE (bdL L (c:Int) l) row[c].D row[c].D.length else []:=by
 unfold cqC;rw [List.range_succ,List.flatMap_append];simp [hc]
def cqK (l:List Arc) (Ls:List (List Int)) (p:Nat→Int→Bool) (F:List (List Mx)) (k:Nat):List Arc:=(List.range k).flatMap fun i=>cqC l (Ls.getD i []) (p i) (F.getD i []) (F.getD i []).length
theorem cqK_next (l:List Arc) (Ls:List (List Int)) (p:Nat→Int→Bool) (F:List (List Mx)) (k:Nat):cqK l Ls p F (k+1)=cqK l Ls p F k++cqC l (Ls.getD k []) (p k) (F.getD k []) (F.getD k []).length:=by
 unfold cqK;rw [List.range_succ,List.flatMap_append];simp
theorem putE_mx {B D:List Int} {X:List Arc} {j q r:Nat} {u v:Int} (hq:j / B.length=q) (hr:j % B.length=r) (F:B.getD q 0=u) (hv:B.getD r 0=v):putE (X++mxE B D j) ⟨u,v,dg D j⟩=X++mxE B D (j+1):=by
 rw [mxE_next,← List.append_assoc]
 unfold putE mxA
 rw [hq,hr,F,hv];dsimp only
 split
 ·rfl
 ·rw [List.append_nil]
theorem cqC_len {l:List Arc} {L:List Int} {p:Int→Bool} {row:List Mx} (h:∀ m∈row,m.D.length≤268435456):∀ {c:Nat},c≤row.length→(cqC l L p row c).length≤c*268435456
 |0,_=>by simp [cqC]
 |c+1,hc=>by
  have h1:=cqC_len (l:=l) (L:=L) (p:=p) h (c:=c) aA
  have h2:=h _ (List.getElem_mem (show c<row.length by omega))
  rw [cqC_next aA,List.length_append]
  split
  ·have:=mxE_len (bdL L (c:Int) l) row[c].D row[c].D.length;omega
  ·rw [List.length_nil,Nat.add_zero,Nat.succ_mul];exact Nat.le_trans h1 (Nat.le_add_right _ _)
theorem cqK_len {l:List Arc} {Ls:List (List Int)} {p:Nat→Int→Bool} {F:List (List Mx)} (h:∀ k,k<F.length→(F.getD k []).length≤1024∧∀ m∈F.getD k [],m.D.length≤268435456):∀ {k:Nat},k≤F.length→(cqK l Ls p F k).length≤k*274877906944
 |0,_=>by simp [cqK]
 |k+1,hk=>by
  have h1:=cqK_len (l:=l) (Ls:=Ls) (p:=p) h (k:=k) aA
  obtain ⟨h2,h3⟩:=h k aA
  have J:=cqC_len (l:=l) (L:=Ls.getD k []) (p:=p k) h3 (Nat.le_refl _)
  rw [cqK_next,List.length_append];omega
theorem OvFit.small {n:Nat} {l:List Arc} {bs:List Int} {Ls:List (List Int)} {ep:Int} {J:List (List Mx)} (O:NestOk n l bs Ls) (hlen:l.length≤8192) (h:OvFit l Ls bs.length ep J):∀ k,k<J.length→(J.getD k []).length≤1024∧∀ m∈J.getD k [],m.D.length≤268435456:=fun k hk=>by
 have F:k<bs.length:=by rw [← h.len];exact hk
 have h1:=h.row k F
 have h2:=many_pos O F
 refine ⟨aA,fun m hm=>?_⟩;obtain ⟨c,hc,rfl⟩:=List.mem_iff_getElem.1 hm
 have h3:=h.at_ k c _ F (List.getElem?_eq_getElem hc)
 have U:=nX (Ls.getD k []) (c:Int) l
 rw [h3.2.2.2];exact Nat.le_trans (Nat.mul_le_mul (show _≤16384 by omega) (show _≤16384 by omega)) (by decide)
theorem cell_in {n:Nat} {l:List Arc} {bs:List Int} {Ls:List (List Int)} (F:NestOk n l bs Ls) {k c:Nat} (hk:k<bs.length) (hc:(c:Int)≤fC (Ls.getD k [])):(c:Int)∈Ls.getD k []:=by
 have h1:=mem_pos (F.right hk) F.n1.1 (j:=c) aA
 obtain ⟨v,_,hv,e⟩:=memTo_mem.1 (List.getElem_mem h1)
 rw [← e,eJ hv];exact List.getElem_mem _
theorem Index_spec (A:Option Addr) (L:List Int) (cap:Nat) (c:Int) (w:World) (hr:Ro (Fr w []) w A (a8 L)) (hm:L.length≤9223372036854775807):
    Meets Tryz.prog 78 [.slice A L.length cap,.int .i64 c] w [] (fun u m=>u= .int .i64 (fstI L c)∧m=[]):=by
 refine bG Tryz.func78 rfl Tryz.ntmps78 rfl Owns.nil<|aG fun kh1=>aB 1 rfl<|aD kh1<|aV fun kh2=>aG fun J=>aB 1 rfl<|dY bU rfl<|aB 1 rfl<|aD J ?_
 refine aS ?_;refine dF (α:=Nat) [0,1,7] (fun k=>[(8,.int .i64 (k:Int))]) (fun k=>[]) (fun k=>k≤L.length∧∀ j (hj:j<L.length),j<k→L[j]≠c) (fun k=>L.length - k) (0) ?_ ?_ ?_ ?_
 ·exact aF
 ·exact aC
 ·exact ⟨Nat.zero_le _,fun j _ h=>aA⟩
 ·rintro k ⟨U,F⟩;refine aG fun kh4=>aB 1 rfl<|aD kh4<|aV fun kh5=>aX rfl (fun X=>?_) (fun X=>?_)
  ·have hk:k<L.length:=aA
   obtain ⟨b,o,rfl,Y,hc⟩:=hr (gX hk)
   refine bZ kh5<|aV fun kh6=>aS<|aG fun kh7=>aB 2 rfl<|aD kh7<|aG fun kh8=>aB 3 rfl<|f_Q (aM bU rfl rfl (o+k))<|f_Q (aH Tryz.isAgg3 rfl (eC (enc:=(.int .i64 ·)) Y hc hk)) ?_
   refine aB 1 rfl<|aD kh8<|aX rfl (fun c16=>?_) (fun c16=>?_)
   ·refine aG fun O=>aB 2 rfl<|aD O<|aZ<|fA<|dA<|dA<|fA<|dA ?_
    exact bO [] Tryz.results78 rfl aP ⟨by rw [fstI_at hk c16.symm F],rfl⟩
   ·refine dZ<|dI<|bP kh6<|aI<|f_Q (bF rfl rfl)<|aB 1 rfl<|aY ?_
    refine cV (a6 (k+1) (by first|omega|(dsimp only;omega)|(simp;omega)) ⟨aA,fun j hj h=>by
      by_cases e:j=k
      ·subst e;exact fun e2=>c16 e2.symm
      ·exact F j hj aA⟩ ?_ ?_ ?_)
    ·exact aF
    ·exact aF
    ·exact aC
  ·obtain rfl:k=L.length:=aA
   refine cS<|cU<|cU<|eH<|bP kh2<|aG fun kh10=>aB 1 rfl<|aD kh10<|aZ ?_
   exact bO [] Tryz.results78 rfl aP ⟨by rw [fstI_none (fun j hj=>F j hj hj)],rfl⟩
theorem apart_spec (Ab:Option Addr) (bs:List Int) (cb:Nat) (Ac:Option Addr) (R:List Row) (cc:Nat) (n s t u v:Nat) (w:World) (hn:NestRo (Fr w []) w Ab bs Ac R) (hlen:∀ r∈R,r.2.1.length=n) (ak:R.length≤5) (hu:u<n) (hv:v<n):
    Meets Tryz.prog 79 [.agg #[.slice Ab bs.length cb,.slice Ac R.length cc,.int .i64 (s:Int),.int .i64 (t:Int)],.int .i64 (u:Int),.int .i64 (v:Int)] w [] (fun x m=>x= .int .i64 ((apV (bJ R) u v R.length:Nat):Int)∧m=[]):=by
 refine bG Tryz.func79 rfl Tryz.ntmps79 rfl Owns.nil<|aG fun kh1=>f_S (cZ rfl rfl fun b3=>?_)
 refine aB 1 rfl<|aD kh1<|aV fun kh2=>aG fun ag=>cN fa101_0 rfl<|cN jF rfl<|c7 Tryz.isAgg32 rfl (rdA rfl)<|dY g5 rfl<|aB 1 rfl<|aD ag ?_
 refine aS ?_;refine m4 (α:=Nat) [1,2,3] (fun k=>[(7,.int .i64 (k:Int))]) (fun k=>k≤R.length∧∀ j,k≤j→j<R.length→((bJ R).getD j []).getD u 0=((bJ R).getD j []).getD v 0) (fun k=>k) (R.length) ?_ ?_ ?_
 ·exact aF
 ·exact ⟨Nat.le_refl _,fun j h1 h2=>aA⟩
 ·rintro k ⟨am,O⟩;refine aV fun ah=>aG fun kh5=>aB 2 rfl<|aD kh5<|aX rfl (fun c13=>?_) (fun c13=>?_)
  ·obtain ⟨J,rfl⟩:∃ J,k=J+1:=⟨k - 1,aA⟩
   have F:J<R.length:=aA
   obtain ⟨b0,o0,aa,ab,ae⟩:=hn.c (gX F)
   have al:=hlen _ (List.getElem_mem F)
   obtain ⟨br, or, X, ac, U⟩ := (hn.rows _ (List.getElem_mem F)).1 (fun e => by have := a7 (R[J]'F).2.1; rw [e] at this; simp at this; omega)
   have Y : u < (R[J]'F).2.1.length := aA
   have Z : v < (R[J]'F).2.1.length := aA
   have ai:=iV F
   have ad : ((bJ R).getD J []).getD u 0 ≠ ((bJ R).getD J []).getD v 0 ↔ (R[J]'F).2.1[u] ≠ (R[J]'F).2.1[v] := by rw [ai, eJ Y, eJ Z]
   refine bZ ah<|aV fun kh6=>aS<|aV fun kh7=>h9 rfl aU<|dG (aT fa101_0 rfl)<|dG (aT jF rfl)<|dG (aH Tryz.isAgg32 rfl (v:= .slice (some ⟨b0,o0,none⟩) R.length cc) (rdA (by rw [← aa];rfl))) ?_
   refine dN 1 rfl<|dG (j5 rfl rfl _ (Eq.trans (d8 aA) (show _=(J:Int) by omega))) ?_
   refine dG (aM g5 rfl rfl (o0 + J)) <| dG (aH Tryz.isAgg25 rfl (v := .slice (some ⟨br, or, none⟩) (R[J]'F).2.1.length (R[J]'F).2.2) (show Rd _ _ _ _ _ (Value.slice (some ⟨br, or, none⟩) (R[J]'F).2.1.length (R[J]'F).2.2) by rw [← X]; exact eC (enc := fI) ab ae F)) ?_;refine dN 1 rfl <| dG (aM bU rfl rfl (or + u)) <| dG (aH Tryz.isAgg3 rfl (eC (enc := (.int .i64 ·)) ac U Y)) <| dG (aT fa101_0 rfl) <| dG (aT jF rfl) <| dG (aH Tryz.isAgg32 rfl (v := .slice (some ⟨b0, o0, none⟩) R.length cc) (rdA (by rw [← aa]; rfl))) ?_
   refine dN 1 rfl<|dG (j5 rfl rfl _ (Eq.trans (d8 aA) (show _=(J:Int) by omega))) ?_
   refine dG (aM g5 rfl rfl (o0 + J)) <| dG (aH Tryz.isAgg25 rfl (v := .slice (some ⟨br, or, none⟩) (R[J]'F).2.1.length (R[J]'F).2.2) (show Rd _ _ _ _ _ (Value.slice (some ⟨br, or, none⟩) (R[J]'F).2.1.length (R[J]'F).2.2) by rw [← X]; exact eC (enc := fI) ab ae F)) ?_;refine dN 1 rfl <| dG (aM bU rfl rfl (or + v)) <| dG (aH Tryz.isAgg3 rfl (eC (enc := (.int .i64 ·)) ac U Z)) <| dN 1 rfl <| eK <| bP kh7 <| aX rfl (fun c36 => ?_) (fun c36 => ?_)
   ·refine aG fun aj=>aB 2 rfl<|aD aj<|aZ<|fA<|dA<|dA<|fA<|dA ?_
    exact bO [] Tryz.results79 rfl aP ⟨by rw [apV_down (k:=J+1) aA O];unfold apV;rw [if_pos (ad.2 c36)],rfl⟩
   ·refine dZ<|dI<|bP kh6<|aI<|aB 1 rfl<|f_Q (j5 rfl rfl _ (Eq.trans (d8 aA) (show _=(J:Int) by omega))) ?_
    refine aB 1 rfl<|aY ?_
    refine cV (a6 (J) (by first|omega|(dsimp only;omega)|(simp;omega)) ⟨aA,fun j h1 h2=>by
      by_cases e:j=J
      ·subst e;exact Classical.not_not.1 fun h=>c36 (ad.1 h)
      ·exact O j aA h2⟩ ?_ ?_ ?_)
    ·exact aF
    ·exact aF
    ·exact aC
  ·refine cS<|cU<|cU<|eH<|bP kh2<|aG fun kh9=>aB 1 rfl<|aD kh9<|aZ ?_
   obtain rfl:k=0:=aA
   exact bO [] Tryz.results79 rfl aP ⟨by rw [apV_down (k:=0) aA O];rfl,rfl⟩
theorem qat_spec (U:Option Addr) (bs:List Int) (cb:Nat) (O:Option Addr) (R:List Row) (cc:Nat) (n s t v:Nat) (w:World) (hn:NestRo (Fr w []) w U bs O R) (hlen:∀ r∈R,r.2.1.length=n) (J:R.length≤5) (hs:s<n) (Z:t<n) (hv:v<n):
    Meets Tryz.prog 50 [.agg #[.slice U bs.length cb,.slice O R.length cc,.int .i64 (s:Int),.int .i64 (t:Int)],.int .i64 (v:Int)] w [] (fun x m=>x= .int .i64 ((atV (bJ R) s t R.length v:Nat):Int)∧m=[]):=by
 refine bG Tryz.func50 rfl Tryz.ntmps50 rfl Owns.nil<|aG fun kh1=>f_S (cZ rfl rfl fun Y=>?_)
 refine aB 1 rfl<|aD kh1<|aV fun kh2=>cQ [[(Y,blk [.slice U bs.length cb,.slice O R.length cc,.int .i64 (s:Int),.int .i64 (t:Int)] 101)]] rfl<|f_T 0 rfl (aQ (vs:=[_,_,_,_]) Tryz.isAgg101 Tryz.sizeOf101 rfl rfl ⟨(rdA rfl),(rdA rfl),(rdA rfl),(rdA rfl),trivial⟩)<|f_T 1 rfl (aR rfl)<|f_T 2 rfl (aT fa101_1 rfl)<|f_T 3 rfl (aH Tryz.isAgg3 rfl (rdA rfl))<|f_T 5 rfl (aQ (vs:=[_,_,_,_]) Tryz.isAgg101 Tryz.sizeOf101 rfl rfl ⟨(rdA rfl),(rdA rfl),(rdA rfl),(rdA rfl),trivial⟩)<|f_T 6 rfl (aR rfl) ?_
 refine f_T 7 rfl (aT fa101_2 rfl)<|f_T 8 rfl (aH Tryz.isAgg3 rfl (rdA rfl)) ?_
 refine f_O 4 rfl (aW Tryz.call79 rfl (fun X F=>apart_spec U bs cb O R cc n s t v s X (hn.up0 F) hlen J hv hs) ?_);rintro _ _ ⟨rfl,rfl⟩;dsimp only [aK,aJ];refine ⟨aC,?_⟩;refine f_O 9 rfl (aW Tryz.call79 rfl (fun X F=>apart_spec U bs cb O R cc n s t v t X (hn.up0 F) hlen J hv Z) ?_);rintro _ _ ⟨rfl,rfl⟩;dsimp only [aK,aJ];refine ⟨aC,?_⟩;refine f_T 10 rfl (oH rfl rfl)<|f_O 11 rfl ((bI rfl).does ⟨aC,?_⟩)
 refine cO aU<|bP kh2<|aZ ?_
 exact bO [] Tryz.results50 rfl aP ⟨by unfold atV;congr 1;omega,rfl⟩
theorem qlooked_spec (n:Nat) (A:Option Addr) (l:List Arc) (cap:Nat) (X:Option Addr) (bs:List Int) (cb:Nat) (J:Option Addr) (R:List Row) (cc:Nat) (U:Option Addr) (O:List MRow) (Y:Nat) (ep:Int) (s t:Nat) (w:World) (hG:GN (Fr w []) w n A l X bs J R) (Z:OvRo (Fr w []) w U O) (he:ep≤1073741824) (hF:OvFit l (bJ R) bs.length ep (g4 O)) (hs:s<n) (ht:t<n):
    Meets Tryz.prog 47 [.agg #[.int .i64 (n:Int),.slice A l.length cap],.agg #[.slice X bs.length cb,.slice J R.length cc],.slice U O.length Y,.int .i64 (s:Int),.int .i64 (t:Int)] w [] (fun u own' =>u= .int .i64 0∧own' =[]):=by
 refine bG Tryz.func47 rfl Tryz.ntmps47 rfl Owns.nil<|aG fun kh1=>f_S (cZ rfl rfl fun b5=>?_)
 refine f_S (cZ rfl rfl fun b6=>?_);refine aB 1 rfl<|aD kh1<|aV fun kh2=>aG fun kh3=>f_Q (aQ (vs:=[_,_]) Tryz.isAgg24 Tryz.sizeOf24 rfl rfl ⟨(rdA rfl),(rdA rfl),trivial⟩)<|f_Q (aQ (vs:=[_,_]) Tryz.isAgg34 Tryz.sizeOf34 rfl rfl ⟨(rdA rfl),(rdA rfl),trivial⟩)<|aB 1 rfl ?_
 refine f_S (aW Tryz.call42 rfl (fun w_ F=>oCheck_spec n A l cap X bs cb J R cc U O Y ep w_ (hG.up0 F) (Z.up0 F) he hF) ?_);rintro _ _ ⟨rfl,rfl⟩;dsimp only [aK,aJ];refine aB 1 rfl<|aD kh3<|aG fun kh4=>aB 2 rfl<|aD kh4<|d4 rfl aO<|bZ kh2<|aV fun kh5=>aG fun kh6=>aB 3 rfl ?_
 refine i4 21 rfl aA<|aB 1 rfl<|eI rfl rfl (aT eV rfl)<|eI rfl rfl (aH Tryz.isAgg3 rfl (rdA rfl))<|aB 3 rfl<|i4 27 rfl aA<|aB 4 rfl<|i4 31 rfl aA<|aB 1 rfl<|eI rfl rfl (aT eV rfl) ?_
 refine eI rfl rfl (aH Tryz.isAgg3 rfl (rdA rfl))<|aB 2 rfl<|aD kh6<|d4 rfl aA<|bZ kh5<|aG fun kh7=>aB 1 rfl<|aD kh7<|aZ ?_
 exact bO [] Tryz.results47 rfl aP ⟨rfl,rfl⟩
theorem put_spec (n:Nat) (E:List Arc) (ad ae:Nat) (m1 m2:Seg) (u v:Nat) (d:Int) (w:World) (bc:TblR n (E.map (trn false)) ad m1) (av:TblR n (E.map (trn true)) ae m2) (br:u<n) (a1:v<n) (bw:E.length≤8000000000000) (hw:Owns w [m1,m2]):
    Meets Tryz.prog 51 [.agg #[.map (some ad),.map (some ae)],.int .i64 (u:Int),.int .i64 (v:Int),.int .u64 d] w [m1,m2] (fun x own' =>∃ m1' m2',x= .tuple #[]∧own' =[m1',m2']∧TblR n ((putE E ⟨(u:Int),(v:Int),d⟩).map (trn false)) ad m1'∧TblR n ((putE E ⟨(u:Int),(v:Int),d⟩).map (trn true)) ae m2'):=by
 refine bG Tryz.func51 rfl Tryz.ntmps51 rfl hw<|aG fun kh1=>f_S (cZ rfl rfl fun b4=>?_)
 refine aD kh1<|aG fun kh2=>aB 2 rfl<|aD kh2<|aX rfl (fun c9=>?_) (fun c9=>?_)
 ·have ac:putE E ⟨(u:Int),(v:Int),d⟩=E++[⟨(u:Int),(v:Int),d⟩]:=by unfold putE;rw [if_pos c9]
  refine aV fun ay=>?_;obtain ⟨J,O,bB,au,bf,bh⟩:=bc
  obtain ⟨bu,bD,be,ao,an,bg,U⟩:=bh.split br
  have ba:=outs_le (E.map (trn false)) u
  rw [List.length_map] at ba;obtain ⟨bv,bC,rfl,bt⟩:=an.val
  refine eP (Sub.openAt (m:=m1) bf) ?_;dsimp only [aK,aJ];refine eP (Sub.splitF bg)<|cQ [[(b4,blk [.map (some ad),.map (some ae)] 105)]] rfl<|f_T 0 rfl (aT fa105_0 rfl)<|f_T 1 rfl (aH Tryz.isAgg103 rfl (rdA rfl))<|f_T 2 rfl (aR rfl)<|f_T 3 rfl (aT fa105_0 rfl)<|f_T 4 rfl (aH Tryz.isAgg103 rfl (rdA rfl))<|f_T 5 rfl (aR rfl)<|f_T 7 rfl (aR rfl)<|f_T 8 rfl (aR rfl) ?_;refine f_T 9 rfl (dU st113 rfl rfl)<|gD 6 10 rfl rfl aU rfl rfl rfl rfl rfl rfl ?_ ?_
  ·refine (fG pS Tryz.zeroValue114 rfl rfl rfl _ ao).does ⟨aC,?_⟩;refine f_O 10 rfl (bX l9 aA rfl rfl rfl fun bp=>⟨aC,?_⟩);refine f_O 11 rfl (dJ l9 rfl rfl an (ys:=[.int .i64 (v:Int),.int .u64 d]) ⟨(rdA rfl),(rdA rfl),trivial⟩ rfl rfl aA aA fun al ai aj=>⟨aC,?_⟩);refine fX 12 rfl (fB pS rfl rfl rfl rfl ⟨aC,?_⟩);refine cO aU<|bP ay<|eP (Sub.joinF (m:=ai) (G' :=be) (U (trn false ⟨(u:Int),(v:Int),d⟩) _ _ O (Int.toNat_natCast u) aj).2) ?_
   obtain ⟨F,X,bj,ar,am,aw⟩:=av
   obtain ⟨az,bq,aq,ab,Y,ak,aa⟩:=aw.split a1
   have ap:=outs_le (E.map (trn true)) v
   rw [List.length_map] at ap;obtain ⟨bk,bi,rfl,a2⟩:=Y.val
   refine eP (Sub.openAt (m:=m2) am) ?_;dsimp only [aK,aJ];refine eP (Sub.splitF ak)<|cQ [[(b4,blk [.map (some ad),.map (some ae)] 105)]] rfl<|f_T 0 rfl (aT fa105_1 rfl)<|f_T 1 rfl (aH Tryz.isAgg103 rfl (rdA rfl))<|f_T 2 rfl (aR rfl)<|f_T 3 rfl (aT fa105_1 rfl)<|f_T 4 rfl (aH Tryz.isAgg103 rfl (rdA rfl))<|f_T 5 rfl (aR rfl)<|f_T 7 rfl (aR rfl)<|f_T 8 rfl (aR rfl) ?_;refine f_T 9 rfl (dU st113 rfl rfl)<|gD 6 10 rfl rfl aU rfl rfl rfl rfl rfl rfl ?_ ?_
   ·refine (fG pS Tryz.zeroValue114 rfl rfl rfl _ ab).does ⟨aC,?_⟩;refine f_O 10 rfl (bX l9 aA rfl rfl rfl fun ax=>⟨aC,?_⟩);refine f_O 11 rfl (dJ l9 rfl rfl Y (ys:=[.int .i64 (u:Int),.int .u64 d]) ⟨(rdA rfl),(rdA rfl),trivial⟩ rfl rfl aA aA fun ag Z ah=>⟨aC,?_⟩);refine fX 12 rfl (fB pS rfl rfl rfl rfl ⟨aC,?_⟩);refine cO aU ?_;have h1:=(U (trn false ⟨(u:Int),(v:Int),d⟩) _ _ O (Int.toNat_natCast u) aj).1
    have h2:=aa (trn true ⟨(u:Int),(v:Int),d⟩) _ _ X (Int.toNat_natCast v) ah
    rw [← n9] at h1;exact iR [_,_] Tryz.results51 (Sub.transF (Sub.joinF (m:=Z) (G' :=aq) h2.2) (Sub.flatTwo (out1:=[[(ad,e9 iO (fW J (u:Int) al O) (fM J (u:Int) O))],(au.set u ai).flatten]) (out2:=[[(ae,e9 iO (fW F (v:Int) ag X) (fM F (v:Int) X))],(ar.set v Z).flatten]) (by dsimp only [aK,aJ];repeat first|exact aP|refine aL ?_|refine bV rfl ?_|refine fY ?_))) ⟨_,_,rfl,rfl,by rw [ac];exact TblR.mk h1,by rw [ac,n9];exact TblR.mk h2.1⟩
   ·refine (bX l9 aA rfl rfl rfl fun ax=>⟨aC,?_⟩);refine f_O 6 rfl ((fG pS Tryz.zeroValue114 rfl rfl rfl _ ab).does ⟨aC,?_⟩);refine f_O 11 rfl (dJ l9 rfl rfl Y (ys:=[.int .i64 (u:Int),.int .u64 d]) ⟨(rdA rfl),(rdA rfl),trivial⟩ rfl rfl aA aA fun ag Z ah=>⟨aC,?_⟩);refine fX 12 rfl (fB pS rfl rfl rfl rfl ⟨aC,?_⟩);refine cO aU ?_;have h1:=(U (trn false ⟨(u:Int),(v:Int),d⟩) _ _ O (Int.toNat_natCast u) aj).1
    have h2:=aa (trn true ⟨(u:Int),(v:Int),d⟩) _ _ X (Int.toNat_natCast v) ah
    rw [← n9] at h1;exact iR [_,_] Tryz.results51 (Sub.transF (Sub.joinF (m:=Z) (G' :=aq) h2.2) (Sub.flatTwo (out1:=[[(ad,e9 iO (fW J (u:Int) al O) (fM J (u:Int) O))],(au.set u ai).flatten]) (out2:=[[(ae,e9 iO (fW F (v:Int) ag X) (fM F (v:Int) X))],(ar.set v Z).flatten]) (by dsimp only [aK,aJ];repeat first|exact aP|refine aL ?_|refine bV rfl ?_|refine fY ?_))) ⟨_,_,rfl,rfl,by rw [ac];exact TblR.mk h1,by rw [ac,n9];exact TblR.mk h2.1⟩
  ·refine (bX l9 aA rfl rfl rfl fun bp=>⟨aC,?_⟩);refine f_O 6 rfl ((fG pS Tryz.zeroValue114 rfl rfl rfl _ ao).does ⟨aC,?_⟩);refine f_O 11 rfl (dJ l9 rfl rfl an (ys:=[.int .i64 (v:Int),.int .u64 d]) ⟨(rdA rfl),(rdA rfl),trivial⟩ rfl rfl aA aA fun al ai aj=>⟨aC,?_⟩);refine fX 12 rfl (fB pS rfl rfl rfl rfl ⟨aC,?_⟩);refine cO aU<|bP ay<|eP (Sub.joinF (m:=ai) (G' :=be) (U (trn false ⟨(u:Int),(v:Int),d⟩) _ _ O (Int.toNat_natCast u) aj).2) ?_
   obtain ⟨F,X,bj,ar,am,aw⟩:=av
   obtain ⟨az,bq,aq,ab,Y,ak,aa⟩:=aw.split a1
   have ap:=outs_le (E.map (trn true)) v
   rw [List.length_map] at ap;obtain ⟨bk,bi,rfl,a2⟩:=Y.val
   refine eP (Sub.openAt (m:=m2) am) ?_;dsimp only [aK,aJ];refine eP (Sub.splitF ak)<|cQ [[(b4,blk [.map (some ad),.map (some ae)] 105)]] rfl<|f_T 0 rfl (aT fa105_1 rfl)<|f_T 1 rfl (aH Tryz.isAgg103 rfl (rdA rfl))<|f_T 2 rfl (aR rfl)<|f_T 3 rfl (aT fa105_1 rfl)<|f_T 4 rfl (aH Tryz.isAgg103 rfl (rdA rfl))<|f_T 5 rfl (aR rfl)<|f_T 7 rfl (aR rfl)<|f_T 8 rfl (aR rfl) ?_;refine f_T 9 rfl (dU st113 rfl rfl)<|gD 6 10 rfl rfl aU rfl rfl rfl rfl rfl rfl ?_ ?_
   ·refine (fG pS Tryz.zeroValue114 rfl rfl rfl _ ab).does ⟨aC,?_⟩;refine f_O 10 rfl (bX l9 aA rfl rfl rfl fun ax=>⟨aC,?_⟩);refine f_O 11 rfl (dJ l9 rfl rfl Y (ys:=[.int .i64 (u:Int),.int .u64 d]) ⟨(rdA rfl),(rdA rfl),trivial⟩ rfl rfl aA aA fun ag Z ah=>⟨aC,?_⟩);refine fX 12 rfl (fB pS rfl rfl rfl rfl ⟨aC,?_⟩);refine cO aU ?_;have h1:=(U (trn false ⟨(u:Int),(v:Int),d⟩) _ _ O (Int.toNat_natCast u) aj).1
    have h2:=aa (trn true ⟨(u:Int),(v:Int),d⟩) _ _ X (Int.toNat_natCast v) ah
    rw [← n9] at h1;exact iR [_,_] Tryz.results51 (Sub.transF (Sub.joinF (m:=Z) (G' :=aq) h2.2) (Sub.flatTwo (out1:=[[(ad,e9 iO (fW J (u:Int) al O) (fM J (u:Int) O))],(au.set u ai).flatten]) (out2:=[[(ae,e9 iO (fW F (v:Int) ag X) (fM F (v:Int) X))],(ar.set v Z).flatten]) (by dsimp only [aK,aJ];repeat first|exact aP|refine aL ?_|refine bV rfl ?_|refine fY ?_))) ⟨_,_,rfl,rfl,by rw [ac];exact TblR.mk h1,by rw [ac,n9];exact TblR.mk h2.1⟩
   ·refine (bX l9 aA rfl rfl rfl fun ax=>⟨aC,?_⟩);refine f_O 6 rfl ((fG pS Tryz.zeroValue114 rfl rfl rfl _ ab).does ⟨aC,?_⟩);refine f_O 11 rfl (dJ l9 rfl rfl Y (ys:=[.int .i64 (u:Int),.int .u64 d]) ⟨(rdA rfl),(rdA rfl),trivial⟩ rfl rfl aA aA fun ag Z ah=>⟨aC,?_⟩);refine fX 12 rfl (fB pS rfl rfl rfl rfl ⟨aC,?_⟩);refine cO aU ?_;have h1:=(U (trn false ⟨(u:Int),(v:Int),d⟩) _ _ O (Int.toNat_natCast u) aj).1
    have h2:=aa (trn true ⟨(u:Int),(v:Int),d⟩) _ _ X (Int.toNat_natCast v) ah
    rw [← n9] at h1;exact iR [_,_] Tryz.results51 (Sub.transF (Sub.joinF (m:=Z) (G' :=aq) h2.2) (Sub.flatTwo (out1:=[[(ad,e9 iO (fW J (u:Int) al O) (fM J (u:Int) O))],(au.set u ai).flatten]) (out2:=[[(ae,e9 iO (fW F (v:Int) ag X) (fM F (v:Int) X))],(ar.set v Z).flatten]) (by dsimp only [aK,aJ];repeat first|exact aP|refine aL ?_|refine bV rfl ?_|refine fY ?_))) ⟨_,_,rfl,rfl,by rw [ac];exact TblR.mk h1,by rw [ac,n9];exact TblR.mk h2.1⟩
 ·have ac:putE E ⟨(u:Int),(v:Int),d⟩=E:=by unfold putE;rw [if_neg c9]
  refine dZ ?_;exact iR [m1,m2] Tryz.results51 aC ⟨m1,m2,rfl,rfl,by rw [ac];exact bc,by rw [ac];exact av⟩
theorem cliques_spec (n:Nat) (A:Option Addr) (l:List Arc) (cap:Nat) (Ab:Option Addr) (bs:List Int) (cb:Nat) (Ac:Option Addr) (R:List Row) (cc:Nat) (Ao:Option Addr) (O:List MRow) (co:Nat) (ep:Int) (U X:Nat) (m1 m2:Seg) (p:Nat→Int→Bool) (fi:FuncId) (aw:List Value) (w:World) (hG:GN (Fr w [m1,m2]) w n A l Ab bs Ac R) (hO:OvRo (Fr w [m1,m2]) w Ao O) (hF:OvFit l (bJ R) bs.length ep (g4 O)) (cq:TblR n (([]:List Arc).map (trn false)) U m1) (bE:TblR n (([]:List Arc).map (trn true)) X m2)
    (ct:∀ args w,(callFunc fi args).run Tryz.prog w= .ok (.enter fi args) w) (bM:∀ w',(∀ k,Fr w [m1,m2] k→w'.heap[k]? =w.heap[k]?)→∀ k v:Nat,k<bs.length→v<n→Meets Tryz.prog fi ([.int .i64 ((k:Int)+1),.int .i64 (v:Int)]++aw) w' [] (fun u m=>u= .bool (p k (v:Int))∧m=[])) (hw:Owns w [m1,m2]):
    Meets Tryz.prog 48 [.agg #[.map (some U),.map (some X)],.agg #[.int .i64 (n:Int),.slice A l.length cap],.agg #[.slice Ab bs.length cb,.slice Ac R.length cc],.slice Ao O.length co,.func (.func fi) #[] aw.toArray] w [m1,m2] (fun u own' =>∃ m1' m2',u= .int .i64 0∧own' =[m1',m2']∧TblR n ((cqK l (bJ R) p (g4 O) bs.length).map (trn false)) U m1'∧TblR n ((cqK l (bJ R) p (g4 O) bs.length).map (trn true)) X m2'):=by
 have cu:=hG
 obtain ⟨hr,hok,hn,aa⟩:=cu
 obtain ⟨cP,cY,hlen,ci⟩:=cF aa.g
 have hl:l.length≤9223372036854775807:=aA
 have hN:I64 (n:Int):=by constructor<;>omega
 have b8:=aa.len
 rw [eZ] at b8;have bR:=aa.many
 have ba:=hF.len
 rw [nC] at ba;have hsm:=hF.small aa hlen
 refine bG Tryz.func48 rfl Tryz.ntmps48 rfl hw<|aG fun kh1=>f_S (cZ rfl rfl fun b5=>?_)
 refine f_S (cZ rfl rfl fun b6=>?_);refine f_S (cZ rfl rfl fun b7=>?_);refine aB 1 rfl<|aD kh1<|aV fun kh2=>aG fun bu=>aB 1 rfl<|dY sl53 rfl<|aB 1 rfl<|aD bu<|aS ?_
 refine dF (α:=Nat×Seg×Seg) [4,5,6,7,20,21] (fun ⟨k,m1',m2'⟩=>[(22,.int .i64 (k:Int))]) (fun ⟨k,m1',m2'⟩=>[m1',m2',[(b5,blk [.map (some U),.map (some X)] 105)],[(b6,blk [.int .i64 (n:Int),.slice A l.length cap] 24)],[(b7,blk [.slice Ab bs.length cb,.slice Ac R.length cc] 34)]]) (fun ⟨k,m1',m2'⟩=>k≤O.length∧TblR n ((cqK l (bJ R) p (g4 O) k).map (trn false)) U m1'∧TblR n ((cqK l (bJ R) p (g4 O) k).map (trn true)) X m2') (fun ⟨k,m1',m2'⟩=>O.length - k) (0,m1,m2) ?_ ?_ ?_ ?_
 ·exact aF
 ·exact aC
 ·exact ⟨Nat.zero_le _,cq,bE⟩
 ·rintro ⟨k,m1',m2'⟩ ⟨c2,J,F⟩;refine aG fun kh4=>aB 1 rfl<|aD kh4<|aV fun kh5=>aX rfl (fun b9=>?_) (fun b9=>?_)
  ·have ab:k<O.length:=aA
   have hk:k<bs.length:=aA
   have Y:k<R.length:=aA
   have a1:=hO.mats _ (List.getElem_mem ab)
   obtain ⟨bo,oo,rfl,cg,cw⟩:=hO.o (gX ab)
   have bg:=(hO.rows _ (List.getElem_mem ab)).1
   obtain ⟨r,ah⟩:∃ r,O[k]=r:=⟨_,rfl⟩
   rw [ah] at bg;obtain ⟨Ar,row,cr⟩:=r
   dsimp only at bg;rw [ah] at a1;dsimp only at a1;have be:=hF.row k hk
   have aq:=(hsm k (by rw [nC];exact ab)).2
   rw [nK ab,ah] at be aq;dsimp only at be aq;have bK:=many_pos aa hk
   have cE:=cqK_len (l:=l) (Ls:=bJ R) (p:=p) hsm (k:=k) (by rw [nC];omega)
   have ao:=cqK_next l (bJ R) p (g4 O) k
   rw [nK ab,ah] at ao;dsimp only at ao;obtain ⟨Z,ad⟩:∃ L,(bJ R).getD k []=L:=⟨_,rfl⟩
   have cd:=aa.rowlen (k:=k) hk
   have bp:=iV Y
   rw [ad] at cd bp be bK;have a2 : (R[k]'Y).2.1 = Z := bp.symm
   obtain ⟨b0,o0,bY,b1,cp⟩:=hn.c (gX Y)
   obtain ⟨ay, az, ax, cC, cz⟩ := (hn.rows _ (List.getElem_mem Y)).1 (fun e => by have := a7 (R[k]'Y).2.1; rw [e, a2] at this; simp at this; omega)
   refine bZ kh5<|aV fun kh6=>aS<|aG fun kh7=>aB 1 rfl<|f_Q (aM sl53 rfl rfl (oo+k))<|f_Q (aH Tryz.isAgg141 rfl (show Rd _ _ _ _ _ (.slice Ar row.length cr) from (show Rd _ _ _ _ _ (mrV (Ar,row,cr)) by rw [← ah];exact eC (enc:=mrV) cg cw ab))) ?_
   refine aB 2 rfl<|aD kh7<|aG fun kh8=>aB 1 rfl<|dY sl141 rfl<|aB 1 rfl<|aD kh8<|aS ?_
   refine dF (α:=Nat×Seg×Seg) [4,5,6,7,11,20,21,22,27,28] (fun ⟨c,m1',m2'⟩=>[(29,.int .i64 (c:Int))]) (fun ⟨c,m1',m2'⟩=>[m1',m2',[(b5,blk [.map (some U),.map (some X)] 105)],[(b6,blk [.int .i64 (n:Int),.slice A l.length cap] 24)],[(b7,blk [.slice Ab bs.length cb,.slice Ac R.length cc] 34)]]) (fun ⟨c,m1',m2'⟩=>c≤row.length∧TblR n ((cqK l (bJ R) p (g4 O) k++cqC l Z (p k) row c).map (trn false)) U m1'∧TblR n ((cqK l (bJ R) p (g4 O) k++cqC l Z (p k) row c).map (trn true)) X m2') (fun ⟨c,m1',m2'⟩=>row.length - c) (0,m1',m2') ?_ ?_ ?_ ?_
   ·exact aF
   ·exact aC
   ·exact ⟨Nat.zero_le _,by rw [show cqC l Z (p k) row 0=[] from rfl,List.append_nil];exact J,by rw [show cqC l Z (p k) row 0=[] from rfl,List.append_nil];exact F⟩
   ·rintro ⟨c,m1',m2'⟩ ⟨cD,J,F⟩;refine fJ (e:=[(29,_),(4,_),(5,_),(6,_),(7,_),(11,_),(20,_),(21,_),(22,_),(27,_),(28,_)]) aF ?_;refine aG fun kh9=>aB 1 rfl<|aD kh9<|aV fun kh10=>aX rfl (fun cj=>?_) (fun cj=>?_)
    ·have ag:c<row.length:=aA
     have bc:=a1 _ (List.getElem_mem ag)
     have bq:=aq _ (List.getElem_mem ag)
     have ac:=cqC_next (l:=l) (L:=Z) (p:=p k) ag
     have cT:=cqC_len (l:=l) (L:=Z) (p:=p k) aq (c:=c) aA
     obtain ⟨br,or,rfl,cm,bv⟩:=bg (fH gW kC aA ag)
     obtain ⟨x,hx⟩:∃ x,row[c]=x:=⟨_,rfl⟩
     obtain ⟨au,av,ar,xA,xD,ae⟩:=x
     rw [hx] at bc ac bq;dsimp only at bc ac bq;have an:=hF.at_ k c ⟨au,av,ar,xA,xD,ae⟩ hk (by rw [nK ab,ah];dsimp only;rw [List.getElem?_eq_getElem ag,hx])
     rw [ad] at an;dsimp only at an;obtain ⟨c1,cJ,⟨c0,cW⟩,bL⟩:=an
     have bk:=cl_in aa (c:=c) hk (by rw [ad];omega)
     obtain ⟨v0,bi,cM,_⟩:=fstI_in (L:=Z) (c:=(c:Int)) (by rw [← ad];exact cell_in aa hk (by rw [ad];omega))
     refine bZ kh10<|aV fun kh11=>aS<|aG fun kh12=>aB 1 rfl<|f_Q (aM sl141 rfl rfl (or+c*4))<|f_Q (aQ (vs:=[.int .i64 au,.int .i64 av,.int .i64 ar,.slice xA xD.length ae]) Tryz.isAgg138 Tryz.sizeOf138 rfl rfl (show Rds _ _ _ _ _ (gW ⟨au,av,ar,xA,xD,ae⟩) by rw [← hx];exact gV kC cm bv ag)) ?_
     refine f_S (cX Tryz.zeroValue138 rfl fun cK=>?_);refine aB 1 rfl<|f_Z (bS Tryz.sizeOf138 rfl rfl rfl rfl cG [.int .i64 au,.int .i64 av,.int .i64 ar,.slice xA xD.length ae] rfl ?_)
     refine aD kh12<|aG fun kh13=>cN jF rfl<|f_Q (aH Tryz.isAgg32 rfl (v:= .slice (some ⟨b0,o0,none⟩) R.length cc) (rdA (by rw [← bY];rfl))) ?_
     refine aB 1 rfl <| f_Q (aM g5 rfl rfl (o0 + k)) <| f_Q (aH Tryz.isAgg25 rfl (v := .slice (some ⟨ay, az, none⟩) Z.length (R[k]'Y).2.2) (show Rd _ _ _ _ _ (Value.slice (some ⟨ay, az, none⟩) Z.length (R[k]'Y).2.2) by rw [← ax, ← a2]; exact eC (enc := fI) b1 cp Y)) ?_
     refine aB 1 rfl ?_;refine f_S (aW Tryz.call78 rfl (fun w_ hp_ => Index_spec (some ⟨ay, az, none⟩) Z (R[k]'Y).2.2 (c : Int) w_ (by have h := (hn.up0 hp_).rows _ (List.getElem_mem Y); rw [ax, a2] at h; exact h.1) aA) ?_);rintro _ _ ⟨rfl, rfl⟩;rw [bi];dsimp only [aK, aJ];refine aB 1 rfl <| aD kh13 <| aV fun kh14 => aG fun kh15 => aB 2 rfl <| f_Q (bF rfl rfl) <| aB 1 rfl ?_
     refine f_S (jE [] _ ct rfl rfl Sub.refl (fun w_ hp_=>(by have h:=bM w_ (fun k hk=>hp_.same k hk) k v0 hk aA;exact h)) ?_);rintro _ _ ⟨rfl,rfl⟩;dsimp only [aK,aJ];refine aB 1 rfl<|aD kh15<|e8 rfl (fun c46=>?_) (fun c46=>?_)
     ·have ce:p k (fstI Z (c:Int))=false:=by rw [bi];simpa using c46
      rw [ce,if_neg (by decide),List.append_nil] at ac;refine cS<|cU<|eH<|bP kh11<|aI<|f_Q (bF rfl rfl)<|aB 1 rfl<|aY ?_
      refine cV (a6 (c+1,m1',m2') (by first|omega|(dsimp only;omega)|(simp;omega)) ⟨aA,by rw [ac];exact J,by rw [ac];exact F⟩ ?_ ?_ ?_)
      ·exact aF
      ·exact aF
      ·exact aC
     ·have cy:p k (fstI Z (c:Int))=true:=by rw [bi];simpa using c46
      rw [cy,if_pos rfl] at ac;refine bZ kh14<|aG fun kh16=>f_Q (aQ (vs:=[_,_]) Tryz.isAgg24 Tryz.sizeOf24 rfl rfl ⟨(rdA rfl),(rdA rfl),trivial⟩)<|f_Q (aQ (vs:=[_,_]) Tryz.isAgg34 Tryz.sizeOf34 rfl rfl ⟨(rdA rfl),(rdA rfl),trivial⟩)<|aB 1 rfl<|f_Q (bF rfl rfl)<|aB 1 rfl ?_
      refine f_S (aW Tryz.call9 rfl (fun w_ hp_=>i8 (n:Int) A l cap Ab bs cb Ac R cc ((k:Int)+1) (c:Int) w_ (hr.up0 hp_) hl hN hok (hn.up0 hp_)) ?_);rintro _ _ ⟨B',AB,cB,mB,rfl,rfl,ck,_,cv⟩;have ap:B' =bdL Z (c:Int) l:=by rw [cv bk,show (((k:Int)+1).toNat - 1)=k by omega,ad]
      rw [bk];have b2:xD.length=B'.length*B'.length:=by rw [ap];exact bL
      have am:=fun (v:Int) (h:v∈bdL Z (c:Int) l)=>nA (n:=n) ci h
      rw [← ap] at am;dsimp only [aK,aJ];refine aB 5 rfl<|aD kh16<|aV fun kh17=>aG fun kh18=>aB 2 rfl<|aD kh18<|d4 rfl aO<|bZ kh17<|aG fun kh19=>cN k8 rfl ?_
      refine c7 Tryz.isAgg41 rfl (rdA rfl)<|dY j6 rfl<|aB 1 rfl<|aD kh19<|aS ?_
      refine dF (α:=Nat×Seg×Seg) [4,5,6,7,11,16,20,21,22,27,28,29,60,61] (fun ⟨j,m1',m2'⟩=>[(62,.int .i64 (j:Int))]) (fun ⟨j,m1',m2'⟩=>[m1',m2',mB,[(b5,blk [.map (some U),.map (some X)] 105)],[(b6,blk [.int .i64 (n:Int),.slice A l.length cap] 24)],[(b7,blk [.slice Ab bs.length cb,.slice Ac R.length cc] 34)]]) (fun ⟨j,m1',m2'⟩=>j≤xD.length∧TblR n ((cqK l (bJ R) p (g4 O) k++cqC l Z (p k) row c++mxE B' xD j).map (trn false)) U m1'∧TblR n ((cqK l (bJ R) p (g4 O) k++cqC l Z (p k) row c++mxE B' xD j).map (trn true)) X m2') (fun ⟨j,m1',m2'⟩=>xD.length - j) (0,m1',m2') ?_ ?_ ?_ ?_
      ·exact aF
      ·exact aC
      ·exact ⟨Nat.zero_le _,by rw [show mxE B' xD 0=[] from rfl,List.append_nil];exact J,by rw [show mxE B' xD 0=[] from rfl,List.append_nil];exact F⟩
      ·rintro ⟨j,m1',m2'⟩ ⟨cI,J,F⟩;refine fJ (e:=[(62,_),(4,_),(5,_),(6,_),(7,_),(11,_),(16,_),(20,_),(21,_),(22,_),(27,_),(28,_),(29,_),(60,_),(61,_)]) aF ?_;refine aG fun kh20=>aB 1 rfl<|aD kh20<|aV fun kh21=>aX rfl (fun cn=>?_) (fun cn=>?_)
       ·have hj:j<xD.length:=aA
        obtain ⟨aj,ai,_⟩:=sq_div (b2▸hj)
        have cf:=Nat.div_le_self j B'.length
        obtain ⟨jq,bf⟩:∃ q,j / B'.length=q:=⟨_,rfl⟩
        obtain ⟨jr,bh⟩:∃ q,j % B'.length=q:=⟨_,rfl⟩
        rw [bf] at aj cf;rw [bh] at ai;obtain ⟨bD,oD,rfl,b3,bw⟩:=bc (fun e=>by have:=iJ xD;rw [e] at this;simp at this;omega)
        obtain ⟨u,hu,b4⟩:∃ v:Nat,B'[jq]=(v:Int)∧v<n:=⟨B'[jq].toNat,by have:=am _ (List.getElem_mem aj);omega,by have:=am _ (List.getElem_mem aj);omega⟩
        obtain ⟨v,hv,bC⟩:∃ u:Nat,B'[jr]=(u:Int)∧u<n:=⟨B'[jr].toNat,by have:=am _ (List.getElem_mem ai);omega,by have:=am _ (List.getElem_mem ai);omega⟩
        obtain ⟨bB,bW,rfl,rfl⟩:=ck.at_ aA
        have cR:=mxE_len B' xD j
        refine bZ kh21<|aV fun kh22=>aS<|aG fun kh23=>aB 1 rfl<|f_Q (aM j6 rfl rfl (oD+j))<|f_Q (aH Tryz.isAgg46 rfl (show Rd _ _ _ _ _ (.int .u64 (dg xD j)) by rw [dg_eq hj];exact eC (enc:=(.int .u64 ·)) b3 bw hj)) ?_
        refine aB 2 rfl<|aD kh23<|cQ [[(b5,blk [.map (some U),.map (some X)] 105)],[(bB,blk (a8 B' ++bW) 3)]] rfl<|f_T 0 rfl (aQ (vs:=[_,_]) Tryz.isAgg105 Tryz.sizeOf105 rfl rfl ⟨(rdA rfl),(rdA rfl),trivial⟩)<|f_T 1 rfl (aR rfl)<|f_T 2 rfl (aR rfl)<|f_T 3 rfl (aR rfl)<|f_T 4 rfl (iZ bU rfl)<|f_T 5 rfl (o_quo rfl rfl aA ((jq:Nat):Int) (by rw [tdiv_nat,bf];exact wrap_q aA)) ?_
        refine f_T 6 rfl (aM bU rfl rfl (jq))<|f_T 7 rfl (aH Tryz.isAgg3 rfl (rdA (v:= .int .i64 (u:Int)) (d7 (by rw [d9 aj,hu])))) ?_
        refine f_T 8 rfl (aR rfl)<|f_T 9 rfl (aR rfl)<|f_T 10 rfl (aR rfl)<|f_T 11 rfl (iZ bU rfl)<|f_T 12 rfl (o_rem rfl rfl aA ((jr:Nat):Int) (by rw [tmod_nat,bh])) ?_
        refine f_T 13 rfl (aM bU rfl rfl (jr))<|f_T 14 rfl (aH Tryz.isAgg3 rfl (rdA (v:= .int .i64 (v:Int)) (d7 (by rw [d9 ai,hv])))) ?_
        refine f_T 15 rfl (aR rfl) ?_;refine f_O 16 rfl (d5 [m1',m2'] _ Tryz.call51 rfl (by repeat (first|exact Sub.refl|refine aL ?_)) (fun w_ hp_=>put_spec n (cqK l (bJ R) p (g4 O) k++cqC l Z (p k) row c++mxE B' xD j) U X m1' m2' u v (dg xD j) w_ J F b4 bC (by rw [List.length_append,List.length_append];omega) hp_.owns) ?_);rintro _ _ ⟨bj,bt,rfl,rfl,al,ak⟩;rw [putE_mx (q:=jq) (r:=jr) bf bh (by rw [eJ aj,hu]) (by rw [eJ ai,hv])] at al ak;dsimp only [aK,aJ];refine ⟨aC,?_⟩;refine cO aU<|dI<|bP kh22<|aI<|f_Q (bF rfl rfl)<|aB 1 rfl<|aY ?_
        refine cV (a6 (j+1,bj,bt) (by first|omega|(dsimp only;omega)|(simp;omega)) ⟨aA,al,ak⟩ ?_ ?_ ?_)
        ·exact aF
        ·exact aF
        ·exact aC
       ·obtain rfl:j=xD.length:=aA
        refine cS<|cU<|cU<|eH<|dI<|bP kh11<|aI<|f_Q (bF rfl rfl)<|aB 1 rfl<|aY ?_
        refine cV (a6 (c+1,m1',m2') (by first|omega|(dsimp only;omega)|(simp;omega)) ⟨aA,by rw [ac,← ap,← List.append_assoc];exact J,by rw [ac,← ap,← List.append_assoc];exact F⟩ ?_ ?_ ?_)
        ·exact aF
        ·exact aF
        ·exact aC
    ·obtain rfl:c=row.length:=aA
     refine cS<|cU<|cU<|eH<|dI<|bP kh6<|aI<|f_Q (bF rfl rfl)<|aB 1 rfl<|aY ?_
     refine cV (a6 (k+1,m1',m2') (by first|omega|(dsimp only;omega)|(simp;omega)) ⟨aA,by rw [ao,ad];exact J,by rw [ao,ad];exact F⟩ ?_ ?_ ?_)
     ·exact aF
     ·exact aF
     ·exact aC
  ·obtain rfl:k=O.length:=aA
   refine cS<|cU<|cU<|eH<|bP kh2<|aG fun kh24=>aB 1 rfl<|aD kh24<|aZ ?_
   exact bO [m1',m2'] Tryz.results48 rfl aC ⟨m1',m2',rfl,rfl,by rw [← ba];exact J,by rw [← ba];exact F⟩
theorem inv_steps (p : Option Nat) (args : Array Value) (w : World) : (callMethod (.iface 103 (.map p)) "flyover/query.steps" args).run Tryz.prog w = .ok (.enter 216 (#[.map p] ++ args)) w := by kernel_rfl
def iD (n bT bd:Nat) (h:Value):List Value:=[.iface 103 (.map (some bT)),.slice (some ⟨bd,0,none⟩) n n,h]
def FR0 (n bT bx bd:Nat) (d:List Int) (T:List (Option Int)) (m:Seg):Prop:=
 ∃ bH hm,m.Perm ([[(bx,blk (iD n bT bd (.pointer (some ⟨bH,0,none⟩))) 153)],[(bd,blk (eT d) 46)],hm]:List Seg).flatten∧HRep T bH hm
def FR (n:Nat) (E:List Arc) (bT bx bd:Nat) (d:List Int) (T:List (Option Int)) (m:Seg):Prop:=
 ∃ bH hm ents c vs ms,m.Perm ([[(bx,blk (iD n bT bd (.pointer (some ⟨bH,0,none⟩))) 153)],[(bd,blk (eT d) 46)],hm,[(bT,e9 iO ents c)],(ms:List Seg).flatten]:List Seg).flatten∧HRep T bH hm∧LinkR 113 n E ents vs ms
theorem FR.mk {n:Nat} {E:List Arc} {bT bx bd:Nat} {d:List Int} {T:List (Option Int)} {m mt:Seg} (h:FR0 n bT bx bd d T m) (O:TblR n E bT mt):FR n E bT bx bd d T ([m,mt]:List Seg).flatten:=by
 obtain ⟨bH,hm,hp,F⟩:=h
 obtain ⟨ents,c,vs,ms,hq,J⟩:=O
 exact ⟨bH,hm,ents,c,vs,ms,by simpa using hp.append hq,F,J⟩
theorem FR.mk2 {n:Nat} {E:List Arc} {bT bx bd bH c:Nat} {d:List Int} {T:List (Option Int)} {hm:Seg} {ents:List (Int×Value×Nat)} {vs:List Value} {ms:List Seg} (F:HRep T bH hm) (J:LinkR 113 n E ents vs ms):
  FR n E bT bx bd d T ([[(bx,blk (iD n bT bd (.pointer (some ⟨bH,0,none⟩))) 153)],[(bd,blk (eT d) 46)],hm,[(bT,e9 iO ents c)],ms.flatten]:List Seg).flatten:=⟨bH,hm,ents,c,vs,ms,List.Perm.refl _,F,J⟩
structure BU (n:Nat) (e:List Arc) (s t:Nat) (dx dy:List Int) (bst:Int):Prop where
 b0:0≤bst∧bst≤INF
 up:bst<INF→Wk e iM s t bst
 low:∀ u,u<n→bst≤dg dx u+dg dy u
theorem BU.add {n:Nat} {E:List Arc} {back:Bool} {s t:Nat} {dx dx' dy X:List Int} {Ty:List (Option Int)} {oy:List Nat} {F m:Int} {u:Nat} (h:BU n (E.map (trn back)) s t dx dy F) (hy:SS n (E.map (trn (!back))) iM t dy X Ty oy (RF (E.map (trn (!back))) oy)) (O:u<n) (hm:0≤m∧m≤INF) (hd:dg dx' u=m) (hw:m<INF→Wk (E.map (trn back)) iM s u m) (ho:∀ w,w<n→w≠u→dg dx' w=dg dx w):BU n (E.map (trn back)) s t dx' dy (min F (fU m (dg dy u))):=by
 have hb:=h.b0
 have Z:=hy.rng u O
 have Y:0≤fU m (dg dy u)∧fU m (dg dy u)≤INF:=by unfold fU;split<;>omega
 refine ⟨aA,fun hlt=>?_,fun w J=>?_⟩
 ·rcases Int.le_total F (fU m (dg dy u)) with h1|h1
  ·rw [Int.min_eq_left h1] at hlt ⊢;exact h.up hlt
  ·rw [Int.min_eq_right h1] at hlt ⊢
   have e:=dadd_lt hlt (Int.le_refl _)
   rw [e] at hlt ⊢;have U:=(hy.walk u O aA).turn
   rw [Bool.not_not] at U;exact (hw aA).trans U
 ·by_cases e:w=u
  ·subst e;have:=dadd_le m (dg dy w);omega
  ·rw [ho w J e];have:=h.low w J;omega
theorem LkOk.trn {n:Nat} {E:List Arc} (h:LkOk n E) (b:Bool):LkOk n (E.map (trn b)):=fun x hx=>by
 obtain ⟨y,hy,rfl⟩:=List.mem_map.1 hx
 have:=h y hy
 cases b
 ·exact this
 ·exact ⟨this.2.1,this.1,this.2.2⟩
def QNextΦ (n:Nat) (E:List Arc) (back:Bool) (s t bT bx bd X bY Y:Nat) (dx xx:List Int) (Tx:List (Option Int)) (ox:List Nat) (dy yy:List Int) (Ty:List (Option Int)) (oy:List Nat) (u:Value) (own:List Seg):Prop:=
 ∃ (ok:Bool) (a best:Int) (O U:List Int) (F:List (Option Int)) (J:List Nat) (mx Z:Seg),u= .tuple #[.int .u64 a,.int .u64 best,.bool ok]∧own=[mx,Z]∧FR n (E.map (trn back)) bT bx bd O F mx∧FR n (E.map (trn (!back))) X bY Y dy Ty Z∧
  Both n E iM back s t O U F J dy yy Ty oy best∧(ok=false→topR F=none)∧(ok=true→(∀ (u:Nat) (x:Int),F[u]? =some (some x)→a≤x)∧free n J<free n ox)∧free n J≤free n ox∧0≤a∧a≤INF
theorem steps_spec (ents:List (Int×Value×Nat)) (c bT v:Nat) (w:World) (hw:Owns w [[(bT,e9 iO ents c)]]):
    Meets Tryz.prog 216 [.map (some bT),.int .i64 (v:Int)] w [[(bT,e9 iO ents c)]] (fun u own' =>u=(eS ents (v:Int)).getD (.slice none 0 0)∧own' =[[(bT,e9 iO ents c)]]):=by
 refine bG Tryz.func216 rfl Tryz.ntmps216 rfl hw<|aG fun kh1=>aB 1 rfl<|aD kh1<|aG fun kh2=>aB 2 rfl<|f_Q (fG pS Tryz.zeroValue114 rfl rfl rfl _ rfl)<|aB 1 rfl<|aD kh2<|aZ ?_
 exact bO [[(bT,e9 iO ents c)]] Tryz.results216 rfl aC ⟨rfl,rfl⟩
theorem kP (n bT s:Nat) (ad:1≤n∧n≤1024) (hs:s<n) (Af:Option Addr) (cf:Nat) (w:World) (hf:Ro (Fr w []) w Af [.int .i64 (s:Int),.int .u64 0]):
    Meets Tryz.prog 53 [.iface 103 (.map (some bT)),.int .i64 (n:Int),.slice Af 1 cf] w [] (fun u own' =>∃ bx bd m,u= .pointer (some ⟨bx,0,none⟩)∧own' =[m]∧FR0 n bT bx bd (D0 n s) (T0 n s) m):=by
 obtain ⟨bf,of,rfl,J,O⟩:=hf aO
 refine bG Tryz.func53 rfl Tryz.ntmps53 rfl Owns.nil<|aG fun kh1=>aB 1 rfl<|aD kh1<|aG fun kh2=>aB 1 rfl<|f_S (bX qV aA rfl rfl rfl fun b11=>?_)
 refine aB 1 rfl ?_;refine f_S (aW Tryz.call26 rfl (fun w_ hp_=>i7 b11 0 1 n 18446744073709551615 w_ (fK (b:=b11) hp_ (cs:=[.int .u64 18446744073709551615]) (fun j v hj=>hj)) aA) ?_);rintro _ _ ⟨bd,rfl,rfl⟩;dsimp only [aK,aJ];refine f_Q (dU (cs:=iD n bT bd (.pointer none)) st153 rfl (by kernel_rfl)) ?_;refine f_S (cZ rfl rfl fun F=>?_);refine aB 1 rfl<|aD kh2<|aG fun kh3=>aB 2 rfl ?_
 refine f_S (aW Tryz.call64 rfl (fun w_ hp_=>New_spec (n:Int) w_) ?_);rintro _ _ hN;rw [NewΦ,if_neg aA,Int.toNat_natCast] at hN;obtain ⟨bH,ab,rfl,rfl,Y⟩:=hN
 dsimp only [aK,aJ];refine aB 3 rfl<|f_Q (dD rfl)<|cN fa153_2 rfl<|f_Z (bQ Tryz.sizeOf79 rfl rfl rfl rfl cG (iD n bT bd (.pointer (some ⟨bH,0,none⟩))) rfl ?_)
 refine aD kh3<|aV fun kh4=>aG fun ac=>aB 1 rfl<|dY sl114 rfl<|aB 1 rfl<|aD ac<|aS ?_
 refine dF (α:=Nat×List Int×List (Option Int)×Seg) [7,24,25] (fun ⟨k,d,T,hm⟩=>[(26,.int .i64 (k:Int))]) (fun ⟨k,d,T,hm⟩=>[[(F,blk (iD n bT bd (.pointer (some ⟨bH,0,none⟩))) 153)],[(bd,blk (eT d) 46)],hm]) (fun ⟨k,d,T,hm⟩=>k≤1∧d.length=n∧HRep T bH hm∧(k=0→d=List.replicate n INF∧T=List.replicate n none)∧(k=1→d=D0 n s∧T=T0 n s)) (fun ⟨k,d,T,hm⟩=>1 - k) (0,List.replicate n INF,List.replicate n none,ab) ?_ ?_ ?_ ?_
 · exact aF
 · dsimp only
   rw [← u64s_rep];exact aC
 · exact ⟨aA,aO,Y,fun _=>⟨rfl,rfl⟩,fun h=>aA⟩
 ·
  rintro ⟨k,d,T,hm⟩ ⟨ae,X,hH,h0,h1⟩;refine aG fun kh6=>aB 1 rfl<|aD kh6<|aV fun kh7=>aX rfl (fun Z=>?_) (fun Z=>?_)
  ·
   obtain rfl:k=0:=aA
   obtain ⟨rfl,aa⟩:=h0 rfl
   refine bZ kh7<|aV fun kh8=>aS<|aG fun kh9=>f_Q (aM sl114 rfl rfl (of))<|f_Q (aQ (vs:=[.int .i64 (s:Int),.int .u64 0]) Tryz.isAgg113 Tryz.sizeOf113 rfl rfl ⟨(rdS J (by have:=O 0 _ rfl;simpa using this)),(rdS J (O 1 _ rfl)),trivial⟩) ?_
   refine f_S (cX Tryz.zeroValue113 rfl fun b9=>?_);refine f_Z (bS Tryz.sizeOf113 rfl rfl rfl rfl cG _ rfl ?_);refine aD kh9<|aV fun kh10=>h9 rfl aU<|dG (aT fa113_1 rfl)<|gH Tryz.isAgg46 rfl (rdA rfl)<|dN 1 rfl<|dG (dD rfl)<|dG (aT fa153_1 rfl)<|gH Tryz.isAgg41 rfl (rdA rfl)<|dG (aT qU rfl) ?_
   refine gH Tryz.isAgg3 rfl (rdA rfl)<|dG (aM j6 rfl rfl (s))<|dG (aH Tryz.isAgg46 rfl (rdA (iE (x:=INF) (by rw [List.getElem?_replicate,if_pos hs])))) ?_
   refine dN 1 rfl<|eK<|bP kh10<|f_condY rfl (by decide) ?_
   refine aV fun U=>cQ [[(F,blk (iD n bT bd (.pointer (some ⟨bH,0,none⟩))) 153)],[(b9,blk [.int .i64 (s:Int),.int .u64 0] 113)]] rfl<|f_T 0 rfl (aR rfl)<|f_T 1 rfl (dD rfl)<|f_T 2 rfl (aT fa153_1 rfl)<|f_T 3 rfl (aH Tryz.isAgg41 rfl (rdA rfl))<|f_T 4 rfl (aT qU rfl)<|f_T 5 rfl (aH Tryz.isAgg3 rfl (rdA rfl))<|f_T 6 rfl (aT fa113_1 rfl)<|f_T 7 rfl (aH Tryz.isAgg46 rfl (rdA rfl)) ?_
   refine f_T 8 rfl (aM j6 rfl rfl (s))<|fX 9 rfl (bQ Tryz.sizeOf46 rfl rfl rfl rfl (by rw [iJ,X];omega) (eT (D0 n s)) (o5 _ _ _) ⟨aC,?_⟩)
   refine cO aU<|bP U<|cQ [[(F,blk (iD n bT bd (.pointer (some ⟨bH,0,none⟩))) 153)],[(b9,blk [.int .i64 (s:Int),.int .u64 0] 113)]] rfl<|f_T 0 rfl (aR rfl)<|f_T 1 rfl (dD rfl)<|f_T 2 rfl (aT fa153_2 rfl)<|f_T 3 rfl (aH Tryz.isAgg79 rfl (rdA rfl))<|f_T 4 rfl (aT qU rfl)<|f_T 5 rfl (aH Tryz.isAgg3 rfl (rdA rfl))<|f_T 6 rfl (aT fa113_1 rfl) ?_
   refine f_T 7 rfl (aH Tryz.isAgg46 rfl (rdA rfl)) ?_;refine f_O 8 rfl (d5 [hm] _ Tryz.call65 rfl (by repeat (first|exact Sub.refl|refine aL ?_)) (fun w_ hp_=>lO (List.replicate n none) bH hm (s:Int) 0 w_ (by rw [← aa];exact hH) hp_.owns) ?_);rintro _ _ ⟨rfl,hm2,rfl,hH2⟩;rw [looks_new hs] at hH2;dsimp only [aK,aJ];refine ⟨aC,?_⟩;refine cO aU<|dI<|bP kh8<|aI<|f_Q (bF rfl rfl)<|aB 1 rfl<|aY ?_
   refine cV (a6 (1,D0 n s,T0 n s,hm2) (by first|omega|(dsimp only;omega)|(simp;omega)) ⟨aA,by simp [D0],hH2,fun h=>aA,fun _=>⟨rfl,rfl⟩⟩ ?_ ?_ ?_)
   · exact aF
   · exact aF
   · exact aC
  ·
   obtain rfl:k=1:=aA
   obtain ⟨rfl,rfl⟩:=h1 rfl
   refine cS<|cU<|cU<|eH<|bP kh4<|aG fun kh12=>aB 2 rfl<|aD kh12<|aZ ?_
   exact bO [([[(F,blk (iD n bT bd (.pointer (some ⟨bH,0,none⟩))) 153)],[(bd,blk (eT (D0 n s)) 46)],hm]:List Seg).flatten] Tryz.results53 rfl (Sub.flatF (out:=[[(F,blk (iD n bT bd (.pointer (some ⟨bH,0,none⟩))) 153)],[(bd,blk (eT (D0 n s)) 46)],hm]) aC) ⟨F,bd,_,rfl,rfl,bH,hm,List.Perm.refl _,hH⟩
theorem qnext_spec (n:Nat) (b8:1≤n∧n≤1024) (E:List Arc) (hE:LkOk n E) (back:Bool) (s t bT bx J U bY O:Nat) (dx xx:List Int) (Tx:List (Option Int)) (ox:List Nat) (dy yy:List Int) (Ty:List (Option Int)) (oy:List Nat) (best:Int) (mx my:Seg) (w:World)
    (hB:Both n E iM back s t dx xx Tx ox dy yy Ty oy best) (bR:FR n (E.map (trn back)) bT bx J dx Tx mx) (b1:FR n (E.map (trn (!back))) U bY O dy Ty my) (hw:Owns w [mx,my]):
    Meets Tryz.prog 80 [.pointer (some ⟨bx,0,none⟩),.pointer (some ⟨bY,0,none⟩),.int .u64 best] w [mx,my] (QNextΦ n E back s t bT bx J U bY O dx xx Tx ox dy yy Ty oy):=by
 have ay:=hE.trn back
 have bp:=ay.wt
 have bq:=ay.dst
 have b9:=hB.y.ld
 refine bG Tryz.func80 rfl Tryz.ntmps80 rfl hw ?_;obtain ⟨Z,am,F,cx,b6,ap,bc,bE,au⟩:=bR
 refine eP (Sub.openAt (m:=mx) bc) ?_;dsimp only [aK,aJ];obtain ⟨ah,aj,X,cY,ce,ak,bu,be,bt⟩:=b1
 refine eP (Sub.openAt (m:=my) bu) ?_;dsimp only [aK,aJ];refine aG fun kh1=>aB 3 rfl<|aD kh1<|aG fun kh2=>aB 1 rfl<|f_Q (dD rfl)<|cN fa153_2 rfl<|c7 Tryz.isAgg79 rfl (rdA rfl) ?_
 refine f_S (d5 [am] _ Tryz.call67 rfl (by repeat (first|exact Sub.refl|refine aL ?_)) (fun w_ hp_=>HPop_spec Tx Z am w_ bE hp_.owns) ?_);rintro _ _ ⟨rfl,hm2,rfl,ao⟩;dsimp only [aK,aJ];refine aB 7 rfl<|aD kh2<|aV fun kh3=>aG fun kh4=>aB 2 rfl<|aD kh4<|aX rfl (fun c25=>?_) (fun c25=>?_)
 ·have al:topR Tx=none:=by
    cases e' :topR Tx with
    |none=>rfl
    |some q=>obtain ⟨v,a⟩:=q;rw [lE e'] at c25;exact absurd rfl c25
  rw [popT_none al] at ao;refine aG fun bB=>aB 4 rfl<|aD bB<|aZ<|dA ?_
  exact lA [([[(bx,blk (iD n bT J (.pointer (some ⟨Z,0,none⟩))) 153)],[(J,blk (eT dx) 46)],hm2,[(bT,e9 iO F cx)],ap.flatten]:List Seg).flatten,([[(bY,blk (iD n U O (.pointer (some ⟨ah,0,none⟩))) 153)],[(O,blk (eT dy) 46)],aj,[(U,e9 iO X cY)],ak.flatten]:List Seg).flatten] Tryz.results80 rfl rfl rfl (Sub.flatTwo (out1:=[[(bx,blk (iD n bT J (.pointer (some ⟨Z,0,none⟩))) 153)],[(J,blk (eT dx) 46)],hm2,[(bT,e9 iO F cx)],ap.flatten]) (out2:=[[(bY,blk (iD n U O (.pointer (some ⟨ah,0,none⟩))) 153)],[(O,blk (eT dy) 46)],aj,[(U,e9 iO X cY)],ak.flatten]) (by dsimp only [aK,aJ];repeat first|exact aP|refine aL ?_|refine bV rfl ?_|refine fY ?_)) ⟨false,0,best,dx,xx,Tx,ox,_,_,rfl,rfl,FR.mk2 ao au,FR.mk2 be bt,hB,fun _=>al,fun h=>by (cases h),Nat.le_refl _,by decide,by decide⟩
 ·obtain ⟨v,a,ht⟩:∃ v a,topR Tx=some (v,a):=by
    cases e' :topR Tx with
    |none=>rw [topA_none e'] at c25;exact absurd (by decide) c25
    |some q=>exact ⟨q.1,q.2,rfl⟩
  rw [lE ht];rw [popT_some ht] at ao;obtain ⟨bg,ae,ba,ai,hai,an⟩:=NX.start hB.x ht
  obtain ⟨val,rm,rG,bh,bj,a1,_⟩:=au.split ae
  have cd:=outs_len (E.map (trn back)) v
  obtain ⟨Ar,cr,rfl,b4⟩:=bj.val
  have bC:BU n (E.map (trn back)) s t dx dy (min best (fU a (dg dy v))):=BU.add ⟨hB.b0,hB.up,hB.low⟩ hB.y ae ⟨an,Int.le_of_lt hai⟩ ai (fun h=>by have:=hB.x.walk v ae (by rw [ai];exact h);rwa [ai] at this) (fun w _ _=>rfl)
  refine eP (Sub.splitF a1)<|bZ kh3<|aG fun kh6=>aB 3 rfl<|f_Q (dD rfl)<|cN fa153_1 rfl<|c7 Tryz.isAgg41 rfl (rdA rfl)<|aB 1 rfl<|f_Q (aM j6 rfl rfl (v))<|f_Q (aH Tryz.isAgg46 rfl (rdA (iE (mF aA)))) ?_;refine f_S (aW Tryz.call31 rfl (fun w_ hp_=>i9 a (dg dy v) w_ ⟨an,Int.le_of_lt hai⟩ (hB.y.rng v ae)) ?_);rintro _ _ ⟨rfl,rfl⟩;dsimp only [aK,aJ];refine f_Q (oH rfl rfl)<|aB 1 rfl<|aD kh6<|aV fun kh7=>aG fun b2=>aB 1 rfl<|f_Q (dD rfl)<|cN fa153_0 rfl<|c7 Tryz.isAgg151 rfl (rdA rfl)<|aB 1 rfl ?_
  refine f_S (jH [[(bT,e9 iO F cx)]] _ (inv_steps (some bT)) rfl rfl (by repeat (first|exact Sub.refl|refine aL ?_)) (fun w_ hp_=>steps_spec F cx bT v w_ hp_.owns) ?_);rintro _ _ ⟨rfl,rfl⟩;rw [bh];dsimp only [aK,aJ];refine dY sl114 rfl<|aB 1 rfl<|aD b2<|aS ?_
  refine dF (α:=Nat×List Int×List Int×List (Option Int)×Seg×Int) [0,1,10,43,44] (fun ⟨j,d',ad,T',Y,aa⟩=>[(45,.int .i64 (j:Int)),(2,.int .u64 aa)]) (fun ⟨j,d',ad,T',Y,aa⟩=>[[(bx,blk (iD n bT J (.pointer (some ⟨Z,0,none⟩))) 153)],[(J,blk (eT d') 46)],Y,[(bT,e9 iO F cx)],rm,rG,[(bY,blk (iD n U O (.pointer (some ⟨ah,0,none⟩))) 153)],[(O,blk (eT dy) 46)],aj,[(U,e9 iO X cY)],ak.flatten]) (fun ⟨j,d',ad,T',Y,aa⟩=>j≤(hZ (E.map (trn back)) v).length∧NX n (E.map (trn back)) iM s dx v a ox j d' ad T'∧HRep T' Z Y∧BU n (E.map (trn back)) s t d' dy aa) (fun ⟨j,d',ad,T',Y,aa⟩=>(hZ (E.map (trn back)) v).length - j) (0,dx,xx,Tx.set v none,hm2,min best (fU a (dg dy v))) ?_ ?_ ?_ ?_
  ·exact aF
  ·exact aC
  ·exact ⟨Nat.zero_le _,bg,ao,bC⟩
  ·rintro ⟨j,d',ad,T',Y,aa⟩ ⟨b5,ac,av,ab⟩;refine aG fun kh9=>aB 1 rfl<|aD kh9<|aV fun kh10=>aX rfl (fun bD=>?_) (fun bD=>?_)
   ·have hj:j<(hZ (E.map (trn back)) v).length:=aA
    obtain ⟨i,hi,bv,bf,ar,bL⟩:=outs_at hj
    have b3:=ay _ (List.getElem_mem hi)
    obtain ⟨u,hu,ag⟩:∃ u:Nat,(E.map (trn back))[i].dst=(u:Int)∧u<n:=⟨(E.map (trn back))[i].dst.toNat,aA,aA⟩
    have hud:(E.map (trn back))[i].dst.toNat=u:=aA
    obtain ⟨br,b7,rfl,rfl⟩:=bj.at_ aA
    refine bZ kh10<|aV fun kh11=>aS<|aG fun kh12=>f_Q (aM sl114 rfl rfl (j*2))<|f_Q (aQ (vs:=lkCs (E.map (trn back))[i]) Tryz.isAgg113 Tryz.sizeOf113 rfl rfl (by rw [← bL];exact jR lkCs_len hj)) ?_
    refine f_S (cX Tryz.zeroValue113 rfl fun aw=>?_);refine f_Z (bS Tryz.sizeOf113 rfl rfl rfl rfl cG (lkCs (E.map (trn back))[i]) rfl ?_);refine aD kh12<|aG fun kh13=>aB 1 rfl<|cN fa113_1 rfl<|c7 Tryz.isAgg46 rfl (rdA rfl) ?_
    refine f_S (aW Tryz.call31 rfl (fun w_ hp_=>i9 a (E.map (trn back))[i].wt w_ ⟨an,Int.le_of_lt hai⟩ b3.2.2) ?_);rintro _ _ ⟨rfl,rfl⟩;dsimp only [aK,aJ];refine aB 1 rfl<|aD kh13<|aV fun kh14=>h9 rfl aU<|dN 2 rfl<|dG (dD rfl)<|dG (aT fa153_1 rfl)<|gH Tryz.isAgg41 rfl (rdA rfl)<|dG (aT qU rfl)<|gH Tryz.isAgg3 rfl (rdA rfl) ?_
    refine dG (aM j6 rfl rfl (u))<|dG (aH Tryz.isAgg46 rfl (rdA (iE (mF (by rw [ac.ss.ld];exact ag))))) ?_;refine dN 1 rfl<|eK<|bP kh14<|aX rfl (fun c62=>?_) (fun c62=>?_)
    ·have am:=(ac.ss.rng u ag).2
     have bK:=dadd_lt c62 am
     obtain ⟨aq,az⟩:=ac.relax bp bq bv hi bf ar rfl hud (m:=(fU a (E.map (trn back))[i].wt)) bK c62
     have bW:u<d'.length:=by rw [ac.ss.ld];exact ag
     have bk:=dg_set bW (fU a (E.map (trn back))[i].wt)
     have ax:dg (d'.set u (fU a (E.map (trn back))[i].wt)) u=(fU a (E.map (trn back))[i].wt):=by rw [bk,if_pos rfl]
     have a2:=ab.add (dx' :=d'.set u (fU a (E.map (trn back))[i].wt)) hB.y ag (m:=(fU a (E.map (trn back))[i].wt)) ⟨by unfold fU;split<;>omega,dadd_inf _ _⟩ ax (fun h=>by have:=aq.ss.walk u ag (by rw [ax];exact h);rwa [ax] at this) (fun w _ bw=>by rw [bk,if_neg (fun e=>bw e.symm)])
     refine aV fun kh15=>cQ [[(bx,blk (iD n bT J (.pointer (some ⟨Z,0,none⟩))) 153)],[(aw,blk (lkCs (E.map (trn back))[i]) 113)]] rfl<|f_T 0 rfl (aR rfl)<|f_T 1 rfl (dD rfl)<|f_T 2 rfl (aT fa153_1 rfl)<|f_T 3 rfl (aH Tryz.isAgg41 rfl (rdA rfl))<|f_T 4 rfl (aT qU rfl)<|f_T 5 rfl (aH Tryz.isAgg3 rfl (rdA rfl))<|f_T 6 rfl (aR rfl)<|f_T 7 rfl (aM j6 rfl rfl (u))<|fX 8 rfl (bQ Tryz.sizeOf46 rfl rfl rfl rfl (by rw [iJ,ac.ss.ld];omega) (eT (d'.set u (fU a (E.map (trn back))[i].wt))) (o5 _ _ _) ⟨aC,?_⟩)
     refine cO aU<|bP kh15<|aV fun kh16=>cQ [[(bx,blk (iD n bT J (.pointer (some ⟨Z,0,none⟩))) 153)],[(aw,blk (lkCs (E.map (trn back))[i]) 113)]] rfl<|f_T 0 rfl (aR rfl)<|f_T 1 rfl (dD rfl)<|f_T 2 rfl (aT fa153_2 rfl)<|f_T 3 rfl (aH Tryz.isAgg79 rfl (rdA rfl))<|f_T 4 rfl (aT qU rfl)<|f_T 5 rfl (aH Tryz.isAgg3 rfl (rdA rfl)) ?_
     refine f_T 6 rfl (aR rfl) ?_;refine f_O 7 rfl (d5 [Y] _ Tryz.call65 rfl (by repeat (first|exact Sub.refl|refine aL ?_)) (fun w_ hp_=>(by have h:=lO T' Z Y (u:Int) (fU a (E.map (trn back))[i].wt) w_ av hp_.owns;rw [← hu] at h;exact h)) ?_);rintro _ _ ⟨rfl,bM,rfl,bi⟩;rw [hu,az] at bi;dsimp only [aK,aJ];refine ⟨aC,?_⟩;refine cO aU<|bP kh16<|cQ [[(bY,blk (iD n U O (.pointer (some ⟨ah,0,none⟩))) 153)],[(aw,blk (lkCs (E.map (trn back))[i]) 113)],[(O,blk (eT dy) 46)]] rfl<|f_T 0 rfl (aR rfl)<|f_T 1 rfl (aR rfl)<|f_T 2 rfl (aR rfl)<|f_T 3 rfl (dD rfl)<|f_T 4 rfl (aT fa153_1 rfl)<|f_T 5 rfl (aH Tryz.isAgg41 rfl (rdA rfl))<|f_T 6 rfl (aT qU rfl) ?_
     refine f_T 7 rfl (aH Tryz.isAgg3 rfl (rdA rfl))<|f_T 8 rfl (aM j6 rfl rfl (u))<|f_T 9 rfl (aH Tryz.isAgg46 rfl (rdA (iE (mF aA)))) ?_
     refine f_O 10 rfl (aW Tryz.call31 rfl (fun w_ hp_=>i9 (fU a (E.map (trn back))[i].wt) (dg dy u) w_ ⟨by unfold fU;split<;>omega,dadd_inf _ _⟩ (hB.y.rng u ag)) ?_);rintro _ _ ⟨rfl,rfl⟩;dsimp only [aK,aJ];refine ⟨aC,?_⟩;refine f_T 11 rfl (oH rfl rfl)<|f_O 12 rfl ((bI rfl).does ⟨aC,?_⟩)
     refine cO aU<|dI<|bP kh11<|aI<|f_Q (bF rfl rfl)<|aB 1 rfl<|aY ?_
     refine cV (a6 (j+1,d'.set u (fU a (E.map (trn back))[i].wt),ad.set u (i:Int),T'.set u (some (fU a (E.map (trn back))[i].wt)),bM,min aa (fU (fU a (E.map (trn back))[i].wt) (dg dy u))) (by first|omega|(dsimp only;omega)|(simp;omega)) ⟨aA,aq,bi,a2⟩ ?_ ?_ ?_)
     ·exact aF
     ·exact aF
     ·exact aC
    ·refine dZ<|dI<|bP kh11<|aI<|f_Q (bF rfl rfl)<|aB 1 rfl<|aY ?_
     refine cV (a6 (j+1,d',ad,T',Y,aa) (by first|omega|(dsimp only;omega)|(simp;omega)) ⟨aA,ac.skipQ bv hi bf ar hud c62,av,ab⟩ ?_ ?_ ?_)
     ·exact aF
     ·exact aF
     ·exact aC
   ·refine cS<|cU<|cU<|eH<|bP kh7<|aG fun kh17=>aB 5 rfl<|aD kh17<|aZ ?_
    exact lA [([[(bx,blk (iD n bT J (.pointer (some ⟨Z,0,none⟩))) 153)],[(J,blk (eT d') 46)],Y,[(bT,e9 iO F cx)],ap.flatten]:List Seg).flatten,([[(bY,blk (iD n U O (.pointer (some ⟨ah,0,none⟩))) 153)],[(O,blk (eT dy) 46)],aj,[(U,e9 iO X cY)],ak.flatten]:List Seg).flatten] Tryz.results80 rfl rfl rfl (Sub.transF (Sub.joinF (m:=rm) (G' :=rG) a1.symm) (Sub.flatTwo (out1:=[[(bx,blk (iD n bT J (.pointer (some ⟨Z,0,none⟩))) 153)],[(J,blk (eT d') 46)],Y,[(bT,e9 iO F cx)],ap.flatten]) (out2:=[[(bY,blk (iD n U O (.pointer (some ⟨ah,0,none⟩))) 153)],[(O,blk (eT dy) 46)],aj,[(U,e9 iO X cY)],ak.flatten]) (by dsimp only [aK,aJ];repeat first|exact aP|refine aL ?_|refine bV rfl ?_|refine fY ?_))) ⟨true,a,aa,d',ad,T',v::ox,_,_,rfl,rfl,FR.mk2 av au,FR.mk2 be bt,⟨ac.done aA,hB.y,ab.b0,ab.up,ab.low⟩,fun h=>by (cases h),fun _=>⟨ac.ta,lL ae ba⟩,Nat.le_of_lt (lL ae ba),an,Int.le_of_lt hai⟩
theorem qmeet_spec (n:Nat) (aq:1≤n∧n≤1024) (E:List Arc) (hE:LkOk n E) (s t:Nat) (hs:s<n) (ht:t<n) (be:s≠t) (bT bx O U bY X:Nat) (Y Z:Seg) (w:World)
    (br:FR n (E.map (trn false)) bT bx O (D0 n s) (T0 n s) Y) (bc:FR n (E.map (trn true)) U bY X (D0 n t) (T0 n t) Z) (hw:Owns w [Y,Z]):
    Meets Tryz.prog 52 [.pointer (some ⟨bx,0,none⟩),.pointer (some ⟨bY,0,none⟩),.int .u64 18446744073709551615] w [Y,Z] (fun u own' =>∃ x,u= .int .u64 x∧own' =[]∧IsB E iM s t x):=by
 have ba:=jX (e:=E.map (trn false)) (p:=iM) hs
 have bp:=jX (e:=E.map (trn true)) (p:=iM) ht
 have bg:Both n E iM false s t (D0 n s) (B0 n) (T0 n s) [] (D0 n t) (B0 n) (T0 n t) [] INF:=by
   refine ⟨ba,bp,by decide,fun h=>aA,fun u hu=>?_⟩;rw [D0_dg hs hu,D0_dg ht hu];have hI:(0:Int)≤INF:=by decide
   by_cases e1:s=u
   ·rw [if_pos e1,if_neg (fun e2=>be (e1.trans e2.symm))];omega
   ·rw [if_neg e1];split<;>omega
 have ab:∀ (b:Bool) i (h:i<(E.map (trn b)).length),(E.map (trn b))[i].dst.toNat<n:=fun b=>(hE.trn b).dst
 have aa:∀ (b:Bool),∀ x∈E.map (trn b),0≤x.wt:=fun b=>(hE.trn b).wt
 have an:=fun b=>(hE.trn b).src
 refine bG Tryz.func52 rfl Tryz.ntmps52 rfl hw<|aG fun kh1=>aB 1 rfl<|aD kh1<|aS ?_
 refine dF (α:=List Int×List Int×List (Option Int)×List Nat×List Int×List Int×List (Option Int)×List Nat×Int×Seg×Seg) [0,1] (fun ⟨dx,xx,Tx,ox,dy,yy,Ty,oy,best,mx,my⟩=>[(2,.int .u64 best)]) (fun ⟨dx,xx,Tx,ox,dy,yy,Ty,oy,best,mx,my⟩=>[mx,my]) (fun ⟨dx,xx,Tx,ox,dy,yy,Ty,oy,best,mx,my⟩=>Both n E iM false s t dx xx Tx ox dy yy Ty oy best∧FR n (E.map (trn false)) bT bx O dx Tx mx∧FR n (E.map (trn true)) U bY X dy Ty my) (fun ⟨dx,xx,Tx,ox,dy,yy,Ty,oy,best,mx,my⟩=>free n ox+free n oy) (D0 n s,B0 n,T0 n s,[],D0 n t,B0 n,T0 n t,[],INF,Y,Z) ?_ ?_ ?_ ?_
 ·exact aF
 ·exact aC
 ·exact ⟨bg,br,bc⟩
 ·rintro ⟨dx,xx,Tx,ox,dy,yy,Ty,oy,best,mx,my⟩ ⟨hB,bq,ax⟩;refine aS<|aG fun kh2=>aB 3 rfl ?_
  refine f_S (d5 [mx,my] _ Tryz.call80 rfl (by repeat (first|exact Sub.refl|refine aL ?_)) (fun w_ hp_=>qnext_spec n aq E hE false s t bT bx O U bY X dx xx Tx ox dy yy Ty oy best mx my w_ hB bq ax hp_.owns) ?_);rintro _ _ ⟨ok,a,ac,al,av,ao,ah,ad,ar,rfl,rfl,ai,ap,ak,bh,au,bu,aj⟩;dsimp only [aK,aJ];refine aB 7 rfl<|aD kh2<|aG fun kh3=>aB 3 rfl ?_
  refine f_S (d5 [ar,ad] _ Tryz.call80 rfl (by repeat (first|exact Sub.refl|refine aL ?_)) (fun w_ hp_=>qnext_spec n aq E hE true t s U bY X bT bx O dy yy Ty oy al av ao ah ac ar ad w_ ak.swap ap ai hp_.owns) ?_);rintro _ _ ⟨is,b,F,ay,a2,az,bi,aw,bj,rfl,rfl,ae,am,J,a1,bk,bt,ag⟩;dsimp only [aK,aJ];refine aB 7 rfl<|aD kh3<|aG fun kh4=>aB 2 rfl<|aD kh4<|aG fun kh5=>aB 3 rfl<|nD 31 rfl (fun g31=>?_) (fun g31=>?_)
  ·refine aB 10 rfl<|aD kh5<|eW rfl<|aG fun kh6=>aB 2 rfl<|aD kh6<|aZ<|fA<|dA<|fA ?_
   have hD:=ak.x.done (bh (by simpa using g31)) (an _) (ab _) (aa _)
   exact bO [] Tryz.results52 rfl aP ⟨F,rfl,rfl,by have h:=J.swap.over ht hD;rwa [Bool.not_true,lD] at h⟩
  ·refine aB 4 rfl<|nD 35 rfl (fun g35=>?_) (fun g35=>?_)
   ·refine aB 6 rfl<|aD kh5<|eW rfl<|aG fun kh7=>aB 2 rfl<|aD kh7<|aZ<|fA<|dA<|fA ?_
    have hD:=J.x.done (a1 (by simpa using g35)) (an _) (ab _) (aa _)
    exact bO [] Tryz.results52 rfl aP ⟨F,rfl,rfl,by have h:=(J.over hs hD).turn;rwa [Bool.not_true,lD] at h⟩
   ·refine aB 2 rfl ?_;refine k9 rfl rfl rfl rfl rfl (aW Tryz.call31 rfl (fun w_ hp_=>i9 a b w_ aj ag) ?_);rintro _ _ ⟨rfl,rfl⟩;dsimp only [aK,aJ];refine aB 3 rfl<|aD kh5<|aX rfl (fun c41=>?_) (fun c41=>?_)
    ·refine aG fun bf=>aB 2 rfl<|aD bf<|aZ<|fA<|dA<|fA ?_
     exact bO [] Tryz.results52 rfl aP ⟨F,rfl,rfl,by have h:=J.swap.stop (fun b=>ab b) (fun b=>aa b) hs ht aj.2 ag.2 (au (by simpa using g31)).1 (bk (by simpa using g35)).1 c41;rwa [Bool.not_true,lD] at h⟩
    ·refine dZ<|dI ?_
     refine cV (a6 (al,av,ao,ah,ay,a2,az,bi,F,bj,aw) (by have:=(au (by simpa using g31)).2;dsimp only;omega) ⟨J.swap,am,ae⟩ ?_ ?_ ?_)
     ·exact aF
     ·exact aF
     ·exact aC
end Go.Proofs.YthpkelafioikaaaGreat
