import Derived.Test.YthpkelafioikaaaGreatFlyRun
import Derived.Test.YthpkelafioikaaaGreatAll7
import Derived.Test.YthpkelafioikaaaGreatAll13
import Derived.Test.YthpkelafioikaaaGreatAll6
import Derived.Test.YthpkelafioikaaaGreatAll5
namespace Go.Proofs.YthpkelafioikaaaGreat
open Go Go.RowKit Fly
set_option maxRecDepth 100000
set_option maxHeartbeats 4000000
set_option linter.all false
def DIn (F:List Seg) (m:Mx):Prop:=m.D=[]∨∃ b sp,m.A=some ⟨b,0,none⟩∧(b,blk (fH m.D++sp) 46)∈F.flatten
theorem DIn.own {m:Mx} {s:Seg} (h:Own 46 1 (.slice m.A m.D.length m.cap) m.D.length (fH m.D) s) (J:List Seg):DIn (J++[s]) m:=by
 rcases Nat.eq_zero_or_pos m.D.length with F|F
 ·exact .inl (List.eq_nil_of_length_eq_zero F)
 ·obtain ⟨b,sp,e,rfl⟩:=h.at_ F
  exact .inr ⟨b,sp,e,aN⟩
theorem DIn.more {m:Mx} {F:List Seg} (h:DIn F m) (s:Seg):DIn (F++[s]) m:=by
 rcases h with h|⟨b,sp,e,h⟩
 ·exact .inl h
 ·exact .inr ⟨b,sp,e,by rw [List.flatten_append];exact List.mem_append_left _ h⟩
structure BRep (Os:List (List Mx)) (vs:List Value) (rs ds:List Seg):Prop where
 lv:vs.length=Os.length
 lr:rs.length=Os.length
 own : ∀ (k : Nat) (h : k < Os.length), Own 138 4 (vs[k]'(lv.symm ▸ h)) Os[k].length (Os[k].flatMap gQ) (rs[k]'(lr.symm ▸ h))
 mats:∀ row∈Os,∀ m∈row,DIn ds m
theorem BRep.start (n:Nat):BRep (List.replicate n []) (List.replicate n (.slice none 0 0)) (List.replicate n []) []:=
 ⟨aN,aN,fun k h=>by simp only [List.getElem_replicate];exact Own.nil _ 4,fun row hr m hm=>by rw [List.eq_of_mem_replicate hr] at hm;cases hm⟩
theorem BRep.split {J:List (List Mx)} {vs:List Value} {O Y:List Seg} (h:BRep J vs O Y) {k:Nat} (hk:k<J.length):
  ∃ v r G,vs[k]? =some v∧Own 138 4 v (J.getD k []).length ((J.getD k []).flatMap gQ) r∧O.flatten.Perm (r++G)∧
   ∀ (x:Mx) v' U m',Own 138 4 v' ((J.getD k []).length+1) ((J.getD k []).flatMap gQ++gQ x) U→Own 46 1 (.slice x.A x.D.length x.cap) x.D.length (fH x.D) m'→BRep (J.set k (J.getD k []++[x])) (vs.set k v') (O.set k U) (Y++[m'])∧(U++G).Perm (O.set k U).flatten:=by
 have hr:k<O.length:=by rw [h.lr];exact hk
 have hg:J.getD k []=J[k]:=by simp [List.getD_eq_getElem?_getD,hk]
 rw [hg];refine ⟨_,_,_,List.getElem?_eq_getElem (by rw [h.lv];exact hk),h.own k hk,gN O k hr,fun x v' U m' ho hm=>⟨⟨by simp [h.lv],by simp [h.lr],fun j hj=>?_,fun row X m F=>?_⟩,?_⟩⟩
 ·simp only [List.getElem_set]
  by_cases e:k=j
  ·subst e;rw [if_pos rfl,if_pos rfl,if_pos rfl,← mx_len1];exact ho
  ·rw [if_neg e,if_neg e,if_neg e];exact h.own j (by simpa using hj)
 ·obtain ⟨j,hj,rfl⟩:=List.mem_iff_getElem.1 X
  rw [List.getElem_set] at F
  by_cases e:k=j
  ·subst e
   rw [if_pos rfl] at F
   rcases List.mem_append.1 F with F|F
   ·exact (h.mats _ (List.getElem_mem hk) m F).more _
   ·rw [List.mem_singleton.1 F];exact DIn.own hm Y
  ·rw [if_neg e] at F
   exact (h.mats _ (List.getElem_mem _) m F).more _
 ·have:=gN (O.set k U) k (by simpa using hr)
  rw [List.getElem_set_self,List.eraseIdx_set_eq] at this;exact this.symm
theorem BRep.ro {S:Nat→Prop} {w0 w:World} {segs o2 o3:List Seg} {F:List (List Mx)} {vs:List Value} {J ds:List Seg} (h:BRep F vs J ds) (b:Nat) {T:TypeId} {f:Seg→List Seg} (hp:Hp S w0 segs.flatten w) [h1:At segs b (blk vs T) f] [p2:Pick segs J.flatten o2] [p3:Pick segs ds.flatten o3] (hl:F.length≤1000):
  ∃ O:List rC,vs=O.map mrV∧gJ O=F∧OvRo (Fr w []) w (some ⟨b,0,none⟩) O:=by
 have ad:=h.lv
 have key:∀ i,i<F.length→∃ r:rC,(∀ hv:i<vs.length,vs[i]=mrV r)∧∀ hi:i<F.length,F[i]=r.2.1:=fun i hi=>by
  obtain ⟨A,c,e,_⟩:=(h.own i hi).val
  exact ⟨(A,F[i],c),fun _=>e,fun _=>rfl⟩
 obtain ⟨O,ac,Z⟩:=list_of (R:=fun i r=>(∀ hv:i<vs.length,vs[i]=mrV r)∧∀ hi:i<F.length,F[i]=r.2.1) key
 have e1:vs=O.map mrV:=List.ext_getElem (by simp;omega) fun i h1 h2=>by rw [List.getElem_map];exact (Z i (by simpa using h2)).1 h1
 have e2:gJ O=F:=List.ext_getElem (by simp [gJ];omega) fun i h1 h2=>by simp only [gJ,List.getElem_map];exact ((Z i aA).2 h2).symm
 refine ⟨O,e1,e2,by rw [← e1];exact fP (b:=b) hp fun j v hj=>hj,aA,fun r hr=>?_,fun r hr m hm=>?_⟩
 ·obtain ⟨i,hi,rfl⟩:=List.mem_iff_getElem.1 hr
  have U:i<F.length:=aA
  have ho:=h.own i U
  rw [(Z i hi).1 aA,(Z i hi).2 U] at ho;have ab:i<J.length:=by rw [h.lr];exact U
  have Y:Fly.Sub segs (J[i]::[(J.eraseIdx i).flatten]):=⟨o2.flatten,by
   have:=p2.perm.trans ((gN J i ab).append_right o2.flatten)
   simpa using this⟩
  exact ⟨eS (ho.seen (segs:=J[i]::[(J.eraseIdx i).flatten]) (hp.sub Y)),by have:=ho.val;obtain ⟨_,_,e,h⟩:=this;cases e;omega⟩
 ·have X:r.2.1∈F:=by rw [← e2];exact List.mem_map.2 ⟨r,hr,rfl⟩
  rcases h.mats _ X m hm with h0|⟨b',sp,e,aa⟩
  ·rw [h0];exact Ro.nil
  ·rw [e];exact ro_in hp aa
structure OvSt (l:List Arc) (Ls:List (List Int)) (ep:Int) (nb k c:Nat) (Os:List (List Mx)):Prop where
 len:Os.length=nb
 done:∀ j,j<k→RowOk l (Ls.getD j []) j ep (Os.getD j [])∧((Os.getD j []).length:Int)=e9 (Ls.getD j [])+1
 cur:(Os.getD k []).length=c∧∀ j,j<c→∃ x,(Os.getD k [])[j]? =some x∧MxOk l (Ls.getD k []) k (j:Int) ep x
 rest:∀ j,k<j→Os.getD j []=[]
structure OvOk (l:List Arc) (Ls:List (List Int)) (nb:Nat) (ep:Int) (Os:List (List Mx)):Prop where
 len:Os.length=nb
 row:∀ k,k<nb→RowOk l (Ls.getD k []) k ep (Os.getD k [])∧((Os.getD k []).length:Int)=e9 (Ls.getD k [])+1
theorem getD_rep (n k:Nat):(List.replicate n ([]:List Mx)).getD k []=[]:=by
 rw [List.getD_eq_getElem?_getD,List.getElem?_replicate];split<;>rfl
theorem OvSt.start (l:List Arc) (Ls:List (List Int)) (ep:Int) (F:Nat):OvSt l Ls ep F 0 0 (List.replicate F []):=
 ⟨aN,fun j h=>aA,by rw [getD_rep];exact ⟨rfl,fun j h=>aA⟩,fun j _=>getD_rep _ _⟩
theorem getD_setM {F:List (List Mx)} {k j:Nat} {r:List Mx} (hk:k<F.length):(F.set k r).getD j []=if k=j then r else F.getD j []:=by
 rw [List.getD_eq_getElem?_getD,List.getElem?_set]
 by_cases e:k=j
 ·subst e;simp [hk]
 ·simp [e,List.getD_eq_getElem?_getD]
theorem OvSt.add {l:List Arc} {Ls:List (List Int)} {ep:Int} {O k c:Nat} {J:List (List Mx)} (h:OvSt l Ls ep O k c J) (hk:k<O) {x:Mx} (hx:MxOk l (Ls.getD k []) k (c:Int) ep x):OvSt l Ls ep O k (c+1) (J.set k (J.getD k []++[x])):=by
 have F:k<J.length:=by rw [h.len];exact hk
 refine ⟨by simp [h.len],fun j hj=>?_,?_,fun j hj=>?_⟩
 ·rw [getD_setM F,if_neg aA];exact h.done j hj
 ·rw [getD_setM F,if_pos rfl]
  refine ⟨by rw [List.length_append,h.cur.1];rfl,fun j hj=>?_⟩
  by_cases e:j=c
  ·subst e
   exact ⟨x,by rw [List.getElem?_append_right (by rw [h.cur.1];omega),h.cur.1,Nat.sub_self];rfl,hx⟩
  ·obtain ⟨y,h1,h2⟩:=h.cur.2 j aA
   exact ⟨y,by rw [List.getElem?_append_left (List.getElem?_eq_some_iff.1 h1).1];exact h1,h2⟩
 ·rw [getD_setM F,if_neg aA];exact h.rest j hj
theorem OvSt.up {l:List Arc} {Ls:List (List Int)} {ep:Int} {J k c:Nat} {F:List (List Mx)} (h:OvSt l Ls ep J k c F) (hc:(c:Int)=e9 (Ls.getD k [])+1):OvSt l Ls ep J (k+1) 0 F:=by
 refine ⟨h.len,fun j hj=>?_,by rw [h.rest (k+1) aA];exact ⟨rfl,fun j h=>aA⟩,fun j hj=>h.rest j aA⟩
 by_cases e:j=k
 ·subst e;exact ⟨fun c' O=>h.cur.2 c' aA,by rw [h.cur.1];exact hc⟩
 ·exact h.done j aA
theorem OvSt.ok {l:List Arc} {Ls:List (List Int)} {ep:Int} {F c:Nat} {J:List (List Mx)} (h:OvSt l Ls ep F F c J):OvOk l Ls F ep J:=⟨h.len,h.done⟩
theorem lk_zero {n:Nat} {l:List Arc} {bs:List Int} {L:List (List Int)} (h:NestOk n l bs L) {k:Nat} (hk:k<bs.length):lkE (n:Int) l bs L ((k:Int)+1)=0:=by
 unfold lkE;rw [if_neg (by rw [h.zero];simp),if_neg aA]
theorem cl_in {n:Nat} {l:List Arc} {bs:List Int} {L:List (List Int)} (h:NestOk n l bs L) {k c:Nat} (hk:k<bs.length) (hc:(c:Int)≤e9 (L.getD k [])):clE (n:Int) l bs L ((k:Int)+1) (c:Int)=0:=by
 unfold clE
 rw [if_neg (by rw [lk_zero h hk];simp),show (((k:Int)+1).toNat - 1)=k by omega,if_neg aA]
theorem many_pos {n:Nat} {l:List Arc} {bs:List Int} {L:List (List Int)} (h:NestOk n l bs L) {k:Nat} (hk:k<bs.length):0≤e9 (L.getD k [])∧e9 (L.getD k [])<1024:=by
 have hl:=h.rowlen hk
 have hn:=h.n1
 have hm : (L.getD k [])[0]'aA ∈ L.getD k [] := List.getElem_mem _
 have h1:=e5 (h.right hk) h.n1.1 _ hm
 have h2:=iI hm
 omega
structure Fates (l:List Arc) (bs:List Int) (Ls:List (List Int)) (ep:Int) (O:List rC) (fate:Nat→Nat→Int):Prop where
 is:∀ k c:Nat,k<bs.length→fate k c=0∨(fate k c=1∧k=0)∨(fate k c=2∧0<k)
 old:∀ k c:Nat,k<bs.length→(c:Int)≤e9 (Ls.getD k [])→fate k c=0→k<O.length∧∃ x,((gJ O).getD k [])[c]? =some x∧MxOk l (Ls.getD k []) k (c:Int) ep x
theorem build_spec (n:Nat) (A:Option Addr) (l:List Arc) (cap:Nat) (Ab:Option Addr) (bs:List Int) (cb:Nat) (Ac:Option Addr) (R:List Row) (cc:Nat) (Ao:Option Addr) (O:List rC) (co:Nat) (ep:Int) (ah:Nat→Nat→Int) (fi:FuncId) (al:List Value) (w:World) (hG:GN (Fr w []) w n A l Ab bs Ac R) (hO:OvRo (Fr w []) w Ao O) (he:0≤ep∧ep≤1073741824) (hf:Fates l bs (bG R) ep O ah) (be:∀ args w,(callFunc fi args).run Tryz.prog w= .ok (.enter fi args) w)
    (bc:∀ w',(∀ k,Fr w [] k→w'.heap[k]? =w.heap[k]?)→∀ k c:Nat,k<bs.length→(c:Int)≤e9 ((bG R).getD k [])→Meets Tryz.prog fi ([.int .i64 ((k:Int)+1),.int .i64 (c:Int)]++al) w' [] (fun u m=>u= .int .i64 (ah k c)∧m=[])):
    Meets Tryz.prog 40 [.agg #[.int .i64 (n:Int),.slice A l.length cap],.agg #[.slice Ab bs.length cb,.slice Ac R.length cc],.slice Ao O.length co,.int .i64 ep,.func (.func fi) #[] al.toArray] w [] (fun u own' =>∃ (F:List (List Mx)) (vs:List Value) (Y X:List Seg) (bo:Nat) (an:Int),u= .tuple #[.slice (some ⟨bo,0,none⟩) bs.length bs.length,.int .i64 an,.int .i64 0]∧own' =[[(bo,blk vs 141)],Y.flatten,X.flatten]∧BRep F vs Y X∧OvOk l (bG R) bs.length ep F):=by
 have bh:=hG
 obtain ⟨hr,hok,hn,ag⟩:=bh
 obtain ⟨bq,br,hlen,bj⟩:=bS ag.g
 have hl:l.length≤9223372036854775807:=aA
 have hN:I64 (n:Int):=by constructor<;>omega
 have a1:=ag.len
 rw [d5] at a1;have bg:=ag.many
 refine bE Tryz.func40 rfl Tryz.ntmps40 rfl Owns.nil<|aG fun kh1=>f_S (cT rfl rfl fun b5=>?_)
 refine f_S (cT rfl rfl fun b6=>?_);refine aB 3 rfl<|aD kh1<|aG fun kh2=>cL fa34_0 rfl<|cX Tryz.isAgg25 rfl (rdA rfl)<|dU bX rfl<|f_S (eZ el53 rfl rfl bs.length rfl aA aA (List.replicate bs.length (.slice none 0 0)) (rep_flatC bs.length _).symm fun b26=>?_)
 refine aB 1 rfl<|aD kh2<|aG fun kh3=>aB 1 rfl<|aD kh3<|aS fun kh4=>aG fun az=>aB 1 rfl<|dU sl53 rfl<|aB 1 rfl ?_
 refine aD az<|aR ?_
 refine dA (α:=Nat×Int×List (List Mx)×List Value×List Seg×List Seg) [2,3,4,5,6,13,28] (fun ⟨k,an,F,vs,Y,X⟩=>[(29,.int .i64 (k:Int)),(14,.int .i64 an)]) (fun ⟨k,an,F,vs,Y,X⟩=>[[(b26,blk vs 141)],Y.flatten,X.flatten,[(b5,blk [.int .i64 (n:Int),.slice A l.length cap] 24)],[(b6,blk [.slice Ab bs.length cb,.slice Ac R.length cc] 34)]]) (fun ⟨k,an,F,vs,Y,X⟩=>k≤bs.length∧BRep F vs Y X∧OvSt l (bG R) ep bs.length k 0 F) (fun ⟨k,an,F,vs,Y,X⟩=>bs.length - k) (0,0,List.replicate bs.length [],List.replicate bs.length (.slice none 0 0),List.replicate bs.length [],[]) ?_ ?_ ?_ ?_
 · exact aF
 · dsimp only
   rw [show (List.replicate bs.length ([]:Seg)).flatten=[] from by simp,show ([]:List Seg).flatten=[] from rfl];exact aC
 · exact ⟨Nat.zero_le _,BRep.start _,OvSt.start _ _ _ _⟩
 ·
  rintro ⟨k,an,F,vs,Y,X⟩ ⟨bi,hB,hS⟩;refine aG fun kh6=>aB 1 rfl<|aD kh6<|aS fun kh7=>aX rfl (fun ba=>?_) (fun ba=>?_)
  ·
   have hk:k<bs.length:=aA
   refine bV kh7<|aS fun kh8=>aR<|aG fun kh9=>aB 2 rfl<|aD kh9<|aG fun kh10=>f_Q (aO (vs:=[_,_]) Tryz.isAgg24 Tryz.sizeOf24 rfl rfl ⟨(rdA rfl),(rdA rfl),trivial⟩)<|f_Q (aO (vs:=[_,_]) Tryz.isAgg34 Tryz.sizeOf34 rfl rfl ⟨(rdA rfl),(rdA rfl),trivial⟩)<|aB 1 rfl ?_
   refine f_Q (a8 rfl rfl) ?_;refine f_S (aV Tryz.call72 rfl (fun w_ ac=>NMany_spec (n:Int) A l cap Ab bs cb Ac R cc ((k:Int)+1) w_ (hr.up0 ac) hl hN hok (hn.up0 ac)) ?_);rintro _ _ ⟨rfl,rfl⟩;rw [lk_zero ag hk,if_neg aN,show (((k:Int)+1).toNat - 1)=k by omega];have bp:=many_pos ag hk
   obtain ⟨mN,ay⟩:∃ m:Nat,e9 ((bG R).getD k [])+1=(m:Int):=⟨(e9 ((bG R).getD k [])+1).toNat,aA⟩
   rw [ay];dsimp only [aK,aJ];refine aB 5 rfl<|aD kh10<|aS fun kh11=>aG fun kh12=>aB 2 rfl<|aD kh12<|dX rfl aN<|bV kh11<|aG fun kh13=>aB 2 rfl ?_
   refine aD kh13<|aR ?_
   refine dA (α:=Nat×Int×List (List Mx)×List Value×List Seg×List Seg) [2,3,4,5,6,13,15,28,29,43] (fun ⟨c,an,F,vs,Y,X⟩=>[(44,.int .i64 (c:Int)),(14,.int .i64 an)]) (fun ⟨c,an,F,vs,Y,X⟩=>[[(b26,blk vs 141)],Y.flatten,X.flatten,[(b5,blk [.int .i64 (n:Int),.slice A l.length cap] 24)],[(b6,blk [.slice Ab bs.length cb,.slice Ac R.length cc] 34)]]) (fun ⟨c,an,F,vs,Y,X⟩=>c≤mN∧BRep F vs Y X∧OvSt l (bG R) ep bs.length k c F) (fun ⟨c,an,F,vs,Y,X⟩=>mN - c) (0,an,F,vs,Y,X) ?_ ?_ ?_ ?_
   · exact aF
   · exact aC
   · exact ⟨Nat.zero_le _,hB,hS⟩
   ·
    rintro ⟨c,an,F,vs,Y,X⟩ ⟨bk,hB,hS⟩;refine fF (e:=[(44,_),(14,_),(2,_),(3,_),(4,_),(5,_),(6,_),(13,_),(15,_),(28,_),(29,_),(43,_)]) aF ?_;refine aG fun kh14=>aB 1 rfl<|aD kh14<|aS fun kh15=>aX rfl (fun aw=>?_) (fun aw=>?_)
    ·
     have hc:c<mN:=aA
     refine bV kh15<|aS fun kh16=>aR<|aG fun kh17=>aB 2 rfl<|aD kh17<|aG fun kh18=>aB 2 rfl<|aD kh18<|aG fun kh19=>?_
     refine aB 2 rfl<|f_Q (a8 rfl rfl)<|aB 1 rfl ?_
     refine f_S (jG [] _ be rfl rfl Sub.refl (fun w_ ac=>(by have h:=bc w_ (fun k hk=>ac.same k hk) k c hk aA;exact h)) ?_);rintro _ _ ⟨rfl,rfl⟩;dsimp only [aK,aJ];refine aB 1 rfl<|aD kh19<|aS fun kh20=>aG fun kh21=>aB 2 rfl<|aD kh21<|aX rfl (fun c54=>?_) (fun c54=>?_)
     ·
      refine aI<|aB 2 rfl<|aD kh20<|aG fun kh22=>f_Q (aO (vs:=[_,_]) Tryz.isAgg24 Tryz.sizeOf24 rfl rfl ⟨(rdA rfl),(rdA rfl),trivial⟩)<|f_Q (aO (vs:=[_,_]) Tryz.isAgg34 Tryz.sizeOf34 rfl rfl ⟨(rdA rfl),(rdA rfl),trivial⟩)<|aB 2 rfl<|f_Q (a8 rfl rfl)<|aB 3 rfl ?_
      refine f_S (aV Tryz.call73 rfl (fun w_ ac=>(by
        exact made_spec n A l cap Ab bs cb Ac R cc Ao O co ((k:Int)+1) (c:Int) ep (ah k c) k w_ (hG.up0 ac) (hO.up0 ac) rfl (cl_in ag hk aA) he (fun h=>aA) (fun h=>aA) (fun _ _=>by rw [Int.toNat_natCast];exact hf.old k c hk aA c54))) ?_)
      rintro _ _ ⟨x,mx,rfl,rfl,ad,ai⟩;dsimp only [aK,aJ];refine aB 3 rfl<|f_S (cQ Tryz.zeroValue138 rfl fun b21=>?_)
      refine f_Z (bP Tryz.sizeOf138 rfl rfl rfl rfl cF (gQ x) rfl ?_);refine aB 1 rfl<|aD kh22<|aS fun kh23=>aG fun au=>aB 2 rfl<|aD au<|dX rfl aN<|bV kh23 ?_
      obtain ⟨rv,rm,rG,ak,ae,ao,U⟩:=hB.split (k:=k) (by rw [hS.len];exact hk)
      obtain ⟨Ar,cr,rfl,bf⟩:=ae.val
      have ax:=hS.cur.1
      have aj:=hB.lv
      refine eP (Sub.splitF ao)<|c7 [[(b21,blk (gQ x) 138)]] rfl<|f_T 0 rfl (aU rfl)<|f_T 1 rfl (aU rfl)<|f_T 2 rfl (aU rfl)<|f_T 3 rfl (aU rfl)<|f_T 4 rfl (aL sl53 rfl rfl (k))<|f_T 6 rfl (aO (vs:=gQ x) Tryz.isAgg138 Tryz.sizeOf138 rfl rfl rdsBlk)<|gH 5 7 rfl rfl aW rfl rfl rfl rfl rfl rfl ?_ ?_
      ·
       refine (aH Tryz.isAgg141 rfl (rdA ak)).does ⟨aC,?_⟩;refine f_O 7 rfl (bQ el141 aA rfl rfl rfl fun ap=>⟨aC,?_⟩);refine f_O 8 rfl (dE el141 rfl rfl ae (ys:=(gQ x)) rdsBlk rfl (mx_one _) aA aA fun am Z J=>⟨aC,?_⟩);obtain ⟨aa,ab,rfl,_⟩:=J.val
       refine f_T 9 rfl (aL sl53 rfl rfl (k))<|fZ 10 rfl (bU Tryz.sizeOf141 rfl rfl rfl rfl (by rw [aj,hS.len];omega) (vs.set k (.slice aa ((F.getD k []).length+1) ab)) rfl ⟨aC,?_⟩)
       refine cU aW<|dF<|bO kh16<|aI<|f_Q (a8 rfl rfl)<|aB 1 rfl<|aZ<|f9 (Sub.joinF (m:=Z) (G' :=rG) (U x _ _ mx J ad).2)<|f9 (Sub.joinF (m:=mx) (G' :=X.flatten) nJ) ?_
       refine cS (a6 (c+1,an,F.set k (F.getD k []++[x]),vs.set k (.slice aa ((F.getD k []).length+1) ab),Y.set k Z,X++[mx]) (by first|omega|(dsimp only;omega)|(simp;omega)) ⟨aA,(U x _ _ mx J ad).1,hS.add hk ai⟩ ?_ ?_ ?_)
       · exact aF
       · exact aF
       · exact aC
      ·
       refine (bQ el141 aA rfl rfl rfl fun ap=>⟨aC,?_⟩);refine f_O 5 rfl ((aH Tryz.isAgg141 rfl (rdA ak)).does ⟨aC,?_⟩);refine f_O 8 rfl (dE el141 rfl rfl ae (ys:=(gQ x)) rdsBlk rfl (mx_one _) aA aA fun am Z J=>⟨aC,?_⟩);obtain ⟨aa,ab,rfl,_⟩:=J.val
       refine f_T 9 rfl (aL sl53 rfl rfl (k))<|fZ 10 rfl (bU Tryz.sizeOf141 rfl rfl rfl rfl (by rw [aj,hS.len];omega) (vs.set k (.slice aa ((F.getD k []).length+1) ab)) rfl ⟨aC,?_⟩)
       refine cU aW<|dF<|bO kh16<|aI<|f_Q (a8 rfl rfl)<|aB 1 rfl<|aZ<|f9 (Sub.joinF (m:=Z) (G' :=rG) (U x _ _ mx J ad).2)<|f9 (Sub.joinF (m:=mx) (G' :=X.flatten) nJ) ?_
       refine cS (a6 (c+1,an,F.set k (F.getD k []++[x]),vs.set k (.slice aa ((F.getD k []).length+1) ab),Y.set k Z,X++[mx]) (by first|omega|(dsimp only;omega)|(simp;omega)) ⟨aA,(U x _ _ mx J ad).1,hS.add hk ai⟩ ?_ ?_ ?_)
       · exact aF
       · exact aF
       · exact aC
     ·
      refine aI<|aB 1 rfl<|f_Q (lA rfl rfl _ rfl)<|aB 1 rfl<|aD kh20<|aG fun kh25=>f_Q (aO (vs:=[_,_]) Tryz.isAgg24 Tryz.sizeOf24 rfl rfl ⟨(rdA rfl),(rdA rfl),trivial⟩)<|f_Q (aO (vs:=[_,_]) Tryz.isAgg34 Tryz.sizeOf34 rfl rfl ⟨(rdA rfl),(rdA rfl),trivial⟩)<|aB 2 rfl<|f_Q (a8 rfl rfl) ?_
      refine aB 3 rfl ?_
      refine f_S (aV Tryz.call73 rfl (fun w_ ac=>(by
        obtain ⟨O',bt,aq,av⟩:=hB.ro b26 ac (by rw [hS.len];omega)
        have a2:O'.length=bs.length:=by rw [← jV,aq,hS.len]
        have h:=made_spec n A l cap Ab bs cb Ac R cc (some ⟨b26,0,none⟩) O' bs.length ((k:Int)+1) (c:Int) ep (ah k c) k w_ (hG.up0 ac) av rfl (cl_in ag hk aA) he (fun h=>by have:=hf.is k c hk;omega) (fun h=>by
          have:=hf.is k c hk
          refine ⟨k - 1,aA,aA,?_⟩
          rw [aq];exact (hS.done (k - 1) aA).1) (fun h1 h2=>by have:=hf.is k c hk;omega)
        rw [a2] at h;exact h)) ?_)
      rintro _ _ ⟨x,mx,rfl,rfl,ad,ai⟩;dsimp only [aK,aJ];refine aB 3 rfl<|f_S (cQ Tryz.zeroValue138 rfl fun b21=>?_)
      refine f_Z (bP Tryz.sizeOf138 rfl rfl rfl rfl cF (gQ x) rfl ?_);refine aB 1 rfl<|aD kh25<|aS fun kh26=>aG fun ar=>aB 2 rfl<|aD ar<|dX rfl aN<|bV kh26 ?_
      obtain ⟨rv,rm,rG,ak,ae,ao,U⟩:=hB.split (k:=k) (by rw [hS.len];exact hk)
      obtain ⟨Ar,cr,rfl,bf⟩:=ae.val
      have ax:=hS.cur.1
      have aj:=hB.lv
      refine eP (Sub.splitF ao)<|c7 [[(b21,blk (gQ x) 138)]] rfl<|f_T 0 rfl (aU rfl)<|f_T 1 rfl (aU rfl)<|f_T 2 rfl (aU rfl)<|f_T 3 rfl (aU rfl)<|f_T 4 rfl (aL sl53 rfl rfl (k))<|f_T 6 rfl (aO (vs:=gQ x) Tryz.isAgg138 Tryz.sizeOf138 rfl rfl rdsBlk)<|gH 5 7 rfl rfl aW rfl rfl rfl rfl rfl rfl ?_ ?_
      ·
       refine (aH Tryz.isAgg141 rfl (rdA ak)).does ⟨aC,?_⟩;refine f_O 7 rfl (bQ el141 aA rfl rfl rfl fun ap=>⟨aC,?_⟩);refine f_O 8 rfl (dE el141 rfl rfl ae (ys:=(gQ x)) rdsBlk rfl (mx_one _) aA aA fun am Z J=>⟨aC,?_⟩);obtain ⟨aa,ab,rfl,_⟩:=J.val
       refine f_T 9 rfl (aL sl53 rfl rfl (k))<|fZ 10 rfl (bU Tryz.sizeOf141 rfl rfl rfl rfl (by rw [aj,hS.len];omega) (vs.set k (.slice aa ((F.getD k []).length+1) ab)) rfl ⟨aC,?_⟩)
       refine cU aW<|dF<|bO kh16<|aI<|f_Q (a8 rfl rfl)<|aB 1 rfl<|aZ<|f9 (Sub.joinF (m:=Z) (G' :=rG) (U x _ _ mx J ad).2)<|f9 (Sub.joinF (m:=mx) (G' :=X.flatten) nJ) ?_
       refine cS (a6 (c+1,IntKind.i64.wrap (an+1),F.set k (F.getD k []++[x]),vs.set k (.slice aa ((F.getD k []).length+1) ab),Y.set k Z,X++[mx]) (by first|omega|(dsimp only;omega)|(simp;omega)) ⟨aA,(U x _ _ mx J ad).1,hS.add hk ai⟩ ?_ ?_ ?_)
       · exact aF
       · exact aF
       · exact aC
      ·
       refine (bQ el141 aA rfl rfl rfl fun ap=>⟨aC,?_⟩);refine f_O 5 rfl ((aH Tryz.isAgg141 rfl (rdA ak)).does ⟨aC,?_⟩);refine f_O 8 rfl (dE el141 rfl rfl ae (ys:=(gQ x)) rdsBlk rfl (mx_one _) aA aA fun am Z J=>⟨aC,?_⟩);obtain ⟨aa,ab,rfl,_⟩:=J.val
       refine f_T 9 rfl (aL sl53 rfl rfl (k))<|fZ 10 rfl (bU Tryz.sizeOf141 rfl rfl rfl rfl (by rw [aj,hS.len];omega) (vs.set k (.slice aa ((F.getD k []).length+1) ab)) rfl ⟨aC,?_⟩)
       refine cU aW<|dF<|bO kh16<|aI<|f_Q (a8 rfl rfl)<|aB 1 rfl<|aZ<|f9 (Sub.joinF (m:=Z) (G' :=rG) (U x _ _ mx J ad).2)<|f9 (Sub.joinF (m:=mx) (G' :=X.flatten) nJ) ?_
       refine cS (a6 (c+1,IntKind.i64.wrap (an+1),F.set k (F.getD k []++[x]),vs.set k (.slice aa ((F.getD k []).length+1) ab),Y.set k Z,X++[mx]) (by first|omega|(dsimp only;omega)|(simp;omega)) ⟨aA,(U x _ _ mx J ad).1,hS.add hk ai⟩ ?_ ?_ ?_)
       · exact aF
       · exact aF
       · exact aC
    ·
     obtain rfl:c=mN:=aA
     refine cN<|cO<|cO<|eC<|dF<|bO kh8<|aI<|f_Q (a8 rfl rfl)<|aB 1 rfl<|aZ ?_
     refine cS (a6 (k+1,an,F,vs,Y,X) (by first|omega|(dsimp only;omega)|(simp;omega)) ⟨aA,hB,hS.up aA⟩ ?_ ?_ ?_)
     · exact aF
     · exact aF
     · exact aC
  ·
   obtain rfl:k=bs.length:=aA
   refine cN<|cO<|cO<|eC<|bO kh4<|aG fun kh28=>aB 5 rfl<|aD kh28<|aY ?_
   exact kH [[(b26,blk vs 141)],Y.flatten,X.flatten] Tryz.results40 rfl rfl rfl aC ⟨F,vs,Y,X,b26,an,rfl,rfl,hB,hS.ok⟩
theorem All1_spec (q c:Int) (w:World):Meets Tryz.prog 41 [.int .i64 q,.int .i64 c] w [] (fun u m=>u= .int .i64 (if q=1 then 1 else 2)∧m=[]):=by
 refine bE Tryz.func41 rfl Tryz.ntmps41 rfl Owns.nil<|aG fun kh1=>aB 1 rfl<|aD kh1<|aS fun kh2=>aG fun kh3=>aB 2 rfl<|aD kh3<|aX rfl (fun c6=>?_) (fun c6=>?_)
 ·refine aG fun F=>aB 1 rfl<|aD F<|aY<|cV ?_
  exact bJ [] Tryz.results41 rfl aP ⟨by rw [if_pos c6],rfl⟩
 ·refine bV kh2<|aG fun kh5=>aB 1 rfl<|aD kh5<|aY ?_
  exact bJ [] Tryz.results41 rfl aP ⟨by rw [if_neg c6],rfl⟩
theorem All_spec (n:Nat) (A:Option Addr) (l:List Arc) (cap:Nat) (Z:Option Addr) (bs:List Int) (cb:Nat) (Ac:Option Addr) (R:List Row) (cc:Nat) (ep:Int) (w:World) (hG:GN (Fr w []) w n A l Z bs Ac R) (he:0≤ep∧ep≤1073741824):
    Meets Tryz.prog 14 [.agg #[.int .i64 (n:Int),.slice A l.length cap],.agg #[.slice Z bs.length cb,.slice Ac R.length cc],.int .i64 ep] w [] (fun u own' =>∃ (Y:List (List Mx)) (vs:List Value) (O X:List Seg) (bo:Nat),u= .tuple #[.slice (some ⟨bo,0,none⟩) bs.length bs.length,.int .i64 0]∧own' =[[(bo,blk vs 141)],O.flatten,X.flatten]∧BRep Y vs O X∧OvOk l (bG R) bs.length ep Y):=by
 have ad:=hG
 obtain ⟨hr,hok,hn,J⟩:=ad
 obtain ⟨ae,ag,hlen,ah⟩:=bS J.g
 have hl:l.length≤9223372036854775807:=aA
 have hN:I64 (n:Int):=by constructor<;>omega
 have ac:=J.len
 rw [d5] at ac;have ab:=J.many
 refine bE Tryz.func14 rfl Tryz.ntmps14 rfl Owns.nil<|aG fun kh1=>f_S (cT rfl rfl fun b3=>?_)
 refine f_S (cT rfl rfl fun b4=>?_);refine aB 2 rfl<|aD kh1<|aS fun kh2=>aG fun kh3=>f_Q (aO (vs:=[_,_]) Tryz.isAgg24 Tryz.sizeOf24 rfl rfl ⟨(rdA rfl),(rdA rfl),trivial⟩)<|f_Q (aO (vs:=[_,_]) Tryz.isAgg34 Tryz.sizeOf34 rfl rfl ⟨(rdA rfl),(rdA rfl),trivial⟩) ?_
 refine f_S (aV Tryz.call38 rfl (fun U F=>mG (n:Int) A l cap Z bs cb Ac R cc U (hr.up0 F) hl hN hok (hn.up0 F)) ?_);rintro _ _ ⟨rfl,rfl⟩;rw [J.zero];dsimp only [aK,aJ];refine aB 5 rfl<|aD kh3<|aG fun kh4=>aB 2 rfl<|aD kh4<|dX rfl aN<|bV kh2<|aS fun kh5=>aG fun kh6=>aB 1 rfl ?_
 refine f_S (aV Tryz.call39 rfl (fun U F=>oepochs_spec ep U he) ?_);rintro _ _ ⟨rfl,rfl⟩;dsimp only [aK,aJ];refine aB 1 rfl<|aD kh6<|iJ rfl<|bV kh5<|aG fun kh7=>f_Q (aO (vs:=[_,_]) Tryz.isAgg24 Tryz.sizeOf24 rfl rfl ⟨(rdA rfl),(rdA rfl),trivial⟩)<|f_Q (aO (vs:=[_,_]) Tryz.isAgg34 Tryz.sizeOf34 rfl rfl ⟨(rdA rfl),(rdA rfl),trivial⟩)<|aB 1 rfl ?_
 refine f_S (aV Tryz.call40 rfl (fun U F=>build_spec n A l cap Z bs cb Ac R cc none [] 0 ep (fun k _=>if k=0 then 1 else 2) 41 [] U (hG.up0 F) (OvRo.nil _ _) he ⟨fun k c _=>by by_cases h:k=0<;>simp [h]<;>omega,fun k c _ _ h=>by by_cases h' :k=0<;>simp [h'] at h⟩ Tryz.call41 (fun w' _ k c _ _=>by have h:=All1_spec ((k:Int)+1) (c:Int) w';by_cases hk:k=0;(rw [if_pos aA] at h;rw [if_pos hk];exact h);(rw [if_neg aA] at h;rw [if_neg hk];exact h))) ?_);rintro _ _ ⟨Y,vs,O,X,bo,an,rfl,rfl,hB,aa⟩;dsimp only [aK,aJ];refine aB 7 rfl<|aD kh7<|aG fun kh8=>aB 4 rfl<|aD kh8<|aY ?_
 exact cZ [[(bo,blk vs 141)],O.flatten,X.flatten] Tryz.results14 rfl rfl aC ⟨Y,vs,O,X,bo,rfl,rfl,hB,aa⟩
structure OvFit (l:List Arc) (Ls:List (List Int)) (nb:Nat) (ep:Int) (Os:List (List Mx)):Prop where
 len:Os.length=nb
 row:∀ k,k<nb→((Os.getD k []).length:Int)=e9 (Ls.getD k [])+1
 at_:∀ (k c:Nat) (x:Mx),k<nb→(Os.getD k [])[c]? =some x→x.lv=(k:Int)+1∧x.cl=(c:Int)∧(0≤x.ep∧x.ep≤ep)∧x.D.length=(bdL (Ls.getD k []) (c:Int) l).length*(bdL (Ls.getD k []) (c:Int) l).length
theorem OvOk.fit {l l' :List Arc} {Ls:List (List Int)} {J:Nat} {ep:Int} {F:List (List Mx)} (h:OvOk l Ls J ep F) (he:SameEnds l l'):OvFit l' Ls J ep F:=
 ⟨h.len,fun k hk=>(h.row k hk).2,fun k c x hk hx=>by
  have hlen:=(h.row k hk).2
  have hc:c<(F.getD k []).length:=(List.getElem?_eq_some_iff.1 hx).1
  obtain ⟨y,h1,h2⟩:=(h.row k hk).1 c aA
  rw [hx] at h1;obtain rfl:=Option.some.inj h1
  rw [bdL_ends he]
  exact ⟨h2.lv,h2.cl,h2.ep,h2.mat.len⟩⟩
theorem SameEnds.refl (l:List Arc):SameEnds l l:=⟨rfl,fun _ _ _=>⟨rfl,rfl⟩⟩
def fateR (Ls:List (List Int)) (l:List Arc) (arcs:List Int) (k c:Nat):Int:=if (c:Int)∈o4 (Ls.getD k []) l arcs then (if k=0 then 1 else 2) else 0
theorem stRow_mem {row:List Int} {l:List Arc} {arcs:List Int} {i:Nat} (hi:i<l.length) (hm:(i:Int)∈arcs) (he:row.getD l[i].src.toNat 0=row.getD l[i].dst.toNat 0):row.getD l[i].src.toNat 0∈o4 row l arcs:=by
 unfold o4
 rw [oH,(p8 _).mem_iff]
 unfold stR
 refine List.mem_flatMap.2 ⟨_,hm,?_⟩;rw [stOf_at rfl hi,if_pos he];exact List.mem_singleton.2 rfl
theorem stRow_rising (row:List Int) (l:List Arc) (arcs:List Int):(o4 row l arcs).Pairwise (·<·):=cpt_int (sortI_sorted _)
theorem stRow_len (row:List Int) (l:List Arc) (arcs:List Int):(o4 row l arcs).length≤arcs.length:=by
 unfold o4
 refine Nat.le_trans (kI _) ?_;rw [e6];exact stR_len _ _ _
theorem fates_new {l l' :List Arc} {bs:List Int} {Ls:List (List Int)} {e0 ep:Int} {O:List rC} {arcs:List Int} (Y:OvOk l Ls bs.length e0 (gJ O)) (he:SameEnds l l') (U:e0≤ep) (hd:∀ i (h:i<l.length) (h' :i<l'.length),l'[i]≠l[i]→(i:Int)∈arcs):Fates l' bs Ls ep O (fateR Ls l' arcs) where
 is k c hk:=by
  unfold fateR
  by_cases h:(c:Int)∈o4 (Ls.getD k []) l' arcs
  ·rw [if_pos h]
   by_cases h2:k=0
   ·rw [if_pos h2];exact .inr (.inl ⟨rfl,h2⟩)
   ·rw [if_neg h2];exact .inr (.inr ⟨rfl,aA⟩)
  ·rw [if_neg h];exact .inl rfl
 old k c hk hc hf:=by
  have X:(c:Int)∉o4 (Ls.getD k []) l' arcs:=fun h=>by
   unfold fateR at hf
   rw [if_pos h] at hf
   split at hf<;>cases hf
  obtain ⟨x,h1,h2⟩:=(Y.row k hk).1 c hc
  have hl:=Y.len
  rw [jV] at hl;refine ⟨aA,x,h1,h2.lv,h2.cl,⟨h2.ep.1,Int.le_trans h2.ep.2 U⟩,h2.mat.other he fun i hi hi' J=>?_⟩
  by_cases e:l'[i]=l[i]
  ·exact e
  ·obtain ⟨e1,e2⟩:=he.2 i hi hi'
   obtain ⟨F,Z⟩:=kW.1 J
   rw [← e1] at F;rw [← e2] at Z;have:=stRow_mem (row:=Ls.getD k []) hi' (hd i hi hi' e) (F.trans Z.symm)
   rw [F] at this;exact absurd this X
theorem oCheck_spec (n:Nat) (A:Option Addr) (l:List Arc) (cap:Nat) (Ab:Option Addr) (bs:List Int) (cb:Nat) (Ac:Option Addr) (R:List Row) (cc:Nat) (Ao:Option Addr) (O:List rC) (co:Nat) (ep:Int) (w:World) (hG:GN (Fr w []) w n A l Ab bs Ac R) (hO:OvRo (Fr w []) w Ao O) (he:ep≤1073741824) (hF:OvFit l (bG R) bs.length ep (gJ O)):
    Meets Tryz.prog 42 [.agg #[.int .i64 (n:Int),.slice A l.length cap],.agg #[.slice Ab bs.length cb,.slice Ac R.length cc],.slice Ao O.length co] w [] (fun u own' =>u= .int .i64 0∧own' =[]):=by
 have ay:=hG
 obtain ⟨hr,hok,hn,J⟩:=ay
 obtain ⟨a1,bc,hlen,bg⟩:=bS J.g
 have hl:l.length≤9223372036854775807:=aA
 have hN:I64 (n:Int):=by constructor<;>omega
 have aq:=J.len
 rw [d5] at aq;have ao:=J.many
 have am:=hF.len
 rw [jV] at am;refine bE Tryz.func42 rfl Tryz.ntmps42 rfl Owns.nil<|aG fun kh1=>f_S (cT rfl rfl fun b3=>?_)
 refine f_S (cT rfl rfl fun b4=>?_);refine aB 1 rfl<|aD kh1<|aS fun kh2=>aG fun kh3=>f_Q (aO (vs:=[_,_]) Tryz.isAgg24 Tryz.sizeOf24 rfl rfl ⟨(rdA rfl),(rdA rfl),trivial⟩)<|f_Q (aO (vs:=[_,_]) Tryz.isAgg34 Tryz.sizeOf34 rfl rfl ⟨(rdA rfl),(rdA rfl),trivial⟩) ?_
 refine f_S (aV Tryz.call38 rfl (fun w_ Y=>mG (n:Int) A l cap Ab bs cb Ac R cc w_ (hr.up0 Y) hl hN hok (hn.up0 Y)) ?_);rintro _ _ ⟨rfl,rfl⟩;rw [J.zero];dsimp only [aK,aJ];refine aB 5 rfl<|aD kh3<|aG fun kh4=>aB 2 rfl<|aD kh4<|dX rfl aN<|bV kh2<|aS fun kh5=>aG fun kh6=>aB 1 rfl ?_
 refine dU sl53 rfl<|cL fa34_0 rfl<|cX Tryz.isAgg25 rfl (rdA rfl)<|dU bX rfl<|aB 1 rfl<|aD kh6<|dX rfl aA<|bV kh5<|aS fun kh7=>aG fun ax=>?_
 refine aB 1 rfl<|dU sl53 rfl<|aB 1 rfl<|aD ax<|aR ?_
 refine dA (α:=Nat) [3,4,30,31] (fun k=>[(32,.int .i64 (k:Int))]) (fun k=>[[(b3,blk [.int .i64 (n:Int),.slice A l.length cap] 24)],[(b4,blk [.slice Ab bs.length cb,.slice Ac R.length cc] 34)]]) (fun k=>k≤O.length) (fun k=>O.length - k) (0) ?_ ?_ ?_ ?_
 ·exact aF
 ·exact aC
 ·exact Nat.zero_le _
 ·rintro k ba;refine aG fun kh9=>aB 1 rfl<|aD kh9<|aS fun kh10=>aX rfl (fun au=>?_) (fun au=>?_)
  ·have hk:k<bs.length:=aA
   have aa:k<O.length:=aA
   obtain ⟨bo,oo,rfl,ar,ap⟩:=hO.o (fX aa)
   have ad:=(hO.rows _ (List.getElem_mem aa)).1
   obtain ⟨r,ab⟩:∃ r,O[k]=r:=⟨_,rfl⟩
   rw [ab] at ad;obtain ⟨Ar,row,cr⟩:=r
   dsimp only at ad;refine bV kh10<|aS fun kh11=>aR<|aG fun kh12=>aB 1 rfl<|f_Q (aL sl53 rfl rfl (oo+k))<|f_Q (aH Tryz.isAgg141 rfl (show Rd _ _ _ _ _ (.slice Ar row.length cr) from (show Rd _ _ _ _ _ (mrV (Ar,row,cr)) by rw [← ab];exact d3 (enc:=mrV) ar ap aa))) ?_
   refine aB 2 rfl<|aD kh12<|aG fun kh13=>f_Q (aO (vs:=[_,_]) Tryz.isAgg24 Tryz.sizeOf24 rfl rfl ⟨(rdA rfl),(rdA rfl),trivial⟩)<|f_Q (aO (vs:=[_,_]) Tryz.isAgg34 Tryz.sizeOf34 rfl rfl ⟨(rdA rfl),(rdA rfl),trivial⟩)<|aB 1 rfl<|f_Q (a8 rfl rfl) ?_
   refine f_S (aV Tryz.call72 rfl (fun w_ Y=>NMany_spec (n:Int) A l cap Ab bs cb Ac R cc ((k:Int)+1) w_ (hr.up0 Y) hl hN hok (hn.up0 Y)) ?_);rintro _ _ ⟨rfl,rfl⟩;rw [lk_zero J hk,if_neg aN,show (((k:Int)+1).toNat - 1)=k by omega];have be:=many_pos J hk
   have aj:=hF.row k hk
   rw [lZ aa,ab] at aj;dsimp only at aj;dsimp only [aK,aJ];refine aB 5 rfl<|aD kh13<|aS fun kh14=>aG fun ag=>aB 3 rfl<|iY 47 rfl aN<|aB 1 rfl<|eA rfl rfl (iH sl141 rfl)<|aB 3 rfl<|aD ag ?_
   refine dX rfl aA<|bV kh14<|aG fun kh16=>aB 1 rfl<|dU sl141 rfl<|aB 1 rfl<|aD kh16<|aR ?_
   refine dA (α:=Nat) [3,4,9,30,31,32,53,54] (fun c=>[(55,.int .i64 (c:Int))]) (fun c=>[[(b3,blk [.int .i64 (n:Int),.slice A l.length cap] 24)],[(b4,blk [.slice Ab bs.length cb,.slice Ac R.length cc] 34)]]) (fun c=>c≤row.length) (fun c=>row.length - c) (0) ?_ ?_ ?_ ?_
   ·exact aF
   ·exact aC
   ·exact Nat.zero_le _
   ·rintro c az;refine fF (e:=[(55,_),(3,_),(4,_),(9,_),(30,_),(31,_),(32,_),(53,_),(54,_)]) aF ?_;refine aG fun kh17=>aB 1 rfl<|aD kh17<|aS fun kh18=>aX rfl (fun av=>?_) (fun av=>?_)
    ·have ae:c<row.length:=aA
     obtain ⟨br,or,rfl,al,aw⟩:=ad (eX gQ i9 aA ae)
     obtain ⟨x,hx⟩:∃ x,row[c]=x:=⟨_,rfl⟩
     obtain ⟨X,U,Z,xA,xD,F⟩:=x
     have ac:=hF.at_ k c ⟨X,U,Z,xA,xD,F⟩ hk (by rw [lZ aa,ab];dsimp only;rw [List.getElem?_eq_getElem ae,hx])
     dsimp only at ac;obtain ⟨ah,ai,⟨an,a2⟩,ak⟩:=ac
     refine bV kh18<|aS fun kh19=>aR<|aG fun kh20=>aB 1 rfl<|f_Q (aL sl141 rfl rfl (or+c*4))<|f_Q (aO (vs:=[.int .i64 X,.int .i64 U,.int .i64 Z,.slice xA xD.length F]) Tryz.isAgg138 Tryz.sizeOf138 rfl rfl (show Rds _ _ _ _ _ (gQ ⟨X,U,Z,xA,xD,F⟩) by rw [← hx];exact f8 i9 al aw ae)) ?_
     refine f_S (cQ Tryz.zeroValue138 rfl fun bf=>?_);refine aB 1 rfl<|f_Z (bP Tryz.sizeOf138 rfl rfl rfl rfl cF [.int .i64 X,.int .i64 U,.int .i64 Z,.slice xA xD.length F] rfl ?_)
     refine aD kh20<|aG fun kh21=>cL fa138_0 rfl<|cX Tryz.isAgg3 rfl (rdA rfl)<|aB 1 rfl<|f_Q (a8 rfl rfl)<|aB 2 rfl<|iY 65 rfl aA<|eA rfl rfl (aT fa138_1 rfl)<|eA rfl rfl (aH Tryz.isAgg3 rfl (rdA rfl)) ?_
     refine aB 4 rfl<|iY 71 rfl aA<|eA rfl rfl (aO (vs:=[_,_]) Tryz.isAgg24 Tryz.sizeOf24 rfl rfl ⟨(rdA rfl),(rdA rfl),trivial⟩)<|eA rfl rfl (aO (vs:=[_,_]) Tryz.isAgg34 Tryz.sizeOf34 rfl rfl ⟨(rdA rfl),(rdA rfl),trivial⟩)<|eA rfl rfl (aO (vs:=[_,_,_,_]) Tryz.isAgg138 Tryz.sizeOf138 rfl rfl ⟨(rdA rfl),(rdA rfl),(rdA rfl),(rdA rfl),trivial⟩) ?_
     refine jY rfl rfl rfl rfl rfl (aV Tryz.call74 rfl (fun w_ Y=>qCheck_spec n A l cap Ab bs cb Ac R cc ⟨X,U,Z,xA,xD,F⟩ w_ (hG.up0 Y) (by show clE _ _ _ _ X U=0;rw [ah,ai];exact cl_in J hk aA) ⟨an,by show Z≤_;omega⟩ (by show xD.length=(bdL ((bG R).getD (X.toNat - 1) []) U l).length*_;rw [ah,ai,show (((k:Int)+1).toNat - 1)=k by omega];exact ak)) ?_);rintro _ _ ⟨rfl,rfl⟩;dsimp only [aK,aJ];refine aB 2 rfl<|aD kh21<|dX rfl aN<|dY<|dF<|bO kh19<|aI<|f_Q (a8 rfl rfl)<|aB 1 rfl<|aZ ?_
     refine cS (a6 (c+1) (by first|omega|(dsimp only;omega)|(simp;omega)) aA ?_ ?_ ?_)
     ·exact aF
     ·exact aF
     ·exact aC
    ·refine cN<|cO<|cO<|eC<|dF<|bO kh11<|aI<|f_Q (a8 rfl rfl)<|aB 1 rfl<|aZ ?_
     refine cS (a6 (k+1) (by first|omega|(dsimp only;omega)|(simp;omega)) aA ?_ ?_ ?_)
     ·exact aF
     ·exact aF
     ·exact aC
  ·refine cN<|cO<|cO<|eC<|bO kh7<|aG fun kh22=>aB 1 rfl<|aD kh22<|aY ?_
   exact bJ [] Tryz.results42 rfl aP ⟨rfl,rfl⟩
theorem late_spec (Ao:Option Addr) (O:List rC) (co:Nat) (ep:Int) (w:World) (hO:OvRo (Fr w []) w Ao O) (he:0≤ep) (hE:∀ (k c:Nat) (x:Mx),((gJ O).getD k [])[c]? =some x→x.ep≤ep):
    Meets Tryz.prog 44 [.slice Ao O.length co] w [] (fun u own' =>∃ x,u= .int .i64 x∧own' =[]∧x≤ep):=by
 have ao:=hO.ol
 refine bE Tryz.func44 rfl Tryz.ntmps44 rfl Owns.nil<|aG fun kh1=>aB 1 rfl<|aD kh1<|aG fun kh2=>aB 1 rfl<|aD kh2<|aS fun kh3=>aG fun ak=>aB 1 rfl ?_
 refine dU sl53 rfl<|aB 1 rfl<|aD ak<|aR ?_
 refine dA (α:=Nat×Int) [8,9] (fun ⟨k,y⟩=>[(10,.int .i64 (k:Int)),(3,.int .i64 y)]) (fun ⟨k,y⟩=>[]) (fun ⟨k,y⟩=>k≤O.length∧y≤ep) (fun ⟨k,y⟩=>O.length - k) (0,0) ?_ ?_ ?_ ?_
 ·exact aF
 ·exact aC
 ·exact ⟨Nat.zero_le _,he⟩
 ·rintro ⟨k,y⟩ ⟨an,hy⟩;refine aG fun kh5=>aB 1 rfl<|aD kh5<|aS fun kh6=>aX rfl (fun ag=>?_) (fun ag=>?_)
  ·have J:k<O.length:=aA
   have ad:=(hO.rows _ (List.getElem_mem J)).2
   obtain ⟨bo,oo,rfl,ai,ah⟩:=hO.o (fX J)
   have aa:=(hO.rows _ (List.getElem_mem J)).1
   obtain ⟨r,X⟩:∃ r,O[k]=r:=⟨_,rfl⟩
   rw [X] at aa;obtain ⟨Ar,row,cr⟩:=r
   dsimp only at aa;rw [X] at ad;dsimp only at ad;refine bV kh6<|aS fun kh7=>aR<|aG fun kh8=>f_Q (aL sl53 rfl rfl (oo+k))<|f_Q (aH Tryz.isAgg141 rfl (show Rd _ _ _ _ _ (.slice Ar row.length cr) from (show Rd _ _ _ _ _ (mrV (Ar,row,cr)) by rw [← X];exact d3 (enc:=mrV) ai ah J))) ?_
   refine aB 1 rfl<|aD kh8<|aG fun kh9=>aB 1 rfl<|dU sl141 rfl<|aB 1 rfl<|aD kh9<|aR ?_
   refine dA (α:=Nat×Int) [8,9,10,14,15] (fun ⟨c,y⟩=>[(16,.int .i64 (c:Int)),(3,.int .i64 y)]) (fun ⟨c,y⟩=>[]) (fun ⟨c,y⟩=>c≤row.length∧y≤ep) (fun ⟨c,y⟩=>row.length - c) (0,y) ?_ ?_ ?_ ?_
   ·exact aF
   ·exact aC
   ·exact ⟨Nat.zero_le _,hy⟩
   ·rintro ⟨c,y⟩ ⟨am,hy⟩;refine fF (e:=[(16,_),(3,_),(8,_),(9,_),(10,_),(14,_),(15,_)]) aF ?_;refine aG fun kh10=>aB 1 rfl<|aD kh10<|aS fun kh11=>aX rfl (fun aj=>?_) (fun aj=>?_)
    ·have ab:c<row.length:=aA
     obtain ⟨br,or,rfl,ae,al⟩:=aa (eX gQ i9 aA ab)
     obtain ⟨x,hx⟩:∃ x,row[c]=x:=⟨_,rfl⟩
     obtain ⟨Y,Z,U,xA,xD,F⟩:=x
     have ac:=hE k c ⟨Y,Z,U,xA,xD,F⟩ (by rw [lZ J,X];dsimp only;rw [List.getElem?_eq_getElem ab,hx])
     dsimp only at ac;refine bV kh11<|aS fun kh12=>aR<|aG fun kh13=>f_Q (aL sl141 rfl rfl (or+c*4))<|f_Q (aO (vs:=[.int .i64 Y,.int .i64 Z,.int .i64 U,.slice xA xD.length F]) Tryz.isAgg138 Tryz.sizeOf138 rfl rfl (show Rds _ _ _ _ _ (gQ ⟨Y,Z,U,xA,xD,F⟩) by rw [← hx];exact f8 i9 ae al ab)) ?_
     refine f_S (cQ Tryz.zeroValue138 rfl fun b7=>?_);refine f_Z (bP Tryz.sizeOf138 rfl rfl rfl rfl cF [.int .i64 Y,.int .i64 Z,.int .i64 U,.slice xA xD.length F] rfl ?_);refine aD kh13<|aI<|aB 1 rfl<|cL fa138_2 rfl<|cX Tryz.isAgg3 rfl (rdA rfl)<|f_Q (o_max rfl rfl)<|aB 1 rfl<|aZ<|dF<|bO kh12 ?_
     refine aI<|f_Q (a8 rfl rfl)<|aB 1 rfl<|aZ ?_
     refine cS (a6 (c+1,max y U) (by first|omega|(dsimp only;omega)|(simp;omega)) ⟨aA,aA⟩ ?_ ?_ ?_)
     ·exact aF
     ·exact aF
     ·exact aC
    ·refine cN<|cO<|cO<|eC<|dF<|bO kh7<|aI<|f_Q (a8 rfl rfl)<|aB 1 rfl<|aZ ?_
     refine cS (a6 (k+1,y) (by first|omega|(dsimp only;omega)|(simp;omega)) ⟨aA,hy⟩ ?_ ?_ ?_)
     ·exact aF
     ·exact aF
     ·exact aC
  ·refine cN<|cO<|cO<|eC<|bO kh3<|aG fun kh14=>aB 2 rfl<|aD kh14<|aY ?_
   exact bJ [] Tryz.results44 rfl aP ⟨y,rfl,rfl,hy⟩
theorem fateOf_spec (k c:Nat) (As:Option Addr) (F:List Row) (cs:Nat) (w:World) (hA:Ro (Fr w []) w As (F.map fG)) (hR:∀ r∈F,Ro (Fr w []) w r.1 (bF r.2.1)) (hk:k<F.length) (aa:k≤1000) (hs:(F[k]).2.1.Pairwise (·<·)) (hl:(F[k]).2.1.length≤1000000):
    Meets Tryz.prog 46 [.int .i64 ((k:Int)+1),.int .i64 (c:Int),.slice As F.length cs] w [] (fun u own' =>u= .int .i64 (if (c:Int)∈(F[k]).2.1 then (if k=0 then 1 else 2) else 0)∧own' =[]):=by
 obtain ⟨b0,o0,rfl,Z,U⟩:=hA (fX hk)
 have J:=hR _ (List.getElem_mem hk)
 refine bE Tryz.func46 rfl Tryz.ntmps46 rfl Owns.nil<|aG fun kh1=>aB 1 rfl<|aD kh1<|aG fun kh2=>aB 2 rfl<|f_Q (kM rfl rfl _ (Eq.trans (d7 aA) (show _=(k:Int) by omega))) ?_
 refine f_Q (aL gL rfl rfl (o0+k))<|f_Q (aH Tryz.isAgg25 rfl (d3 (enc:=fG) Z U hk))<|aB 1 rfl ?_
 refine f_S (aV Tryz.call77 rfl (fun w_ Y=>BSearch_spec F[k].1 F[k].2.1 F[k].2.2 (c:Int) w_ (J.up0 Y) hl hs) ?_);rintro _ _ ⟨i,rfl,rfl,_⟩;dsimp only [aK,aJ];refine aB 5 rfl<|aD kh2<|aS fun kh3=>aR<|aG fun kh4=>aB 3 rfl<|aD kh4<|eO rfl (fun c19=>?_) (fun c19=>?_)
 ·refine aG fun O=>aB 1 rfl<|aD O<|aY<|fA<|cV ?_
  exact bJ [] Tryz.results46 rfl aP ⟨by rw [if_neg (by simpa using c19)],rfl⟩
 ·refine aG fun kh6=>aB 3 rfl<|aD kh6<|aX rfl (fun c22=>?_) (fun c22=>?_)
  ·refine aG fun X=>aB 1 rfl<|aD X<|aY<|fA<|cV ?_
   exact bJ [] Tryz.results46 rfl aP ⟨by rw [if_pos (by simpa using c19),if_pos aA],rfl⟩
  ·refine dY<|dF<|bO kh3<|aG fun kh8=>aB 1 rfl<|aD kh8<|aY ?_
   exact bJ [] Tryz.results46 rfl aP ⟨by rw [if_pos (by simpa using c19),if_neg aA],rfl⟩
theorem Renew1_spec (k c b:Nat) (U:Option Addr) (F:List Row) (cs:Nat) (w:World) (h2:Ro (Fr w []) w (some ⟨b,0,none⟩) [.slice U F.length cs]) (hA:Ro (Fr w []) w U (F.map fG)) (hR:∀ r∈F,Ro (Fr w []) w r.1 (bF r.2.1)) (hk:k<F.length) (X:k≤1000) (hs:(F[k]).2.1.Pairwise (·<·)) (hl:(F[k]).2.1.length≤1000000):
    Meets Tryz.prog 45 ([.int .i64 ((k:Int)+1),.int .i64 (c:Int)]++[.pointer (some ⟨b,0,none⟩)]) w [] (fun u own' =>u= .int .i64 (if (c:Int)∈(F[k]).2.1 then (if k=0 then 1 else 2) else 0)∧own' =[]):=by
 obtain ⟨Y,aa,ab,Z,O⟩:=h2 aN
 obtain ⟨rfl,rfl⟩:b=Y∧0=aa:=by cases ab;exact ⟨rfl,rfl⟩
 refine bE Tryz.func45 rfl Tryz.ntmps45 rfl Owns.nil<|aG fun kh1=>aB 1 rfl<|aD kh1<|aG fun kh2=>aB 2 rfl<|f_Q (aH Tryz.isAgg32 rfl (rdS Z (O 0 _ rfl))) ?_
 refine f_S (aV Tryz.call46 rfl (fun w_ J=>fateOf_spec k c U F cs w_ (hA.up0 J) (fun r hr=>(hR r hr).up0 J) hk X hs hl) ?_);rintro _ _ ⟨rfl,rfl⟩;dsimp only [aK,aJ];refine aB 1 rfl<|aD kh2<|aY ?_
 exact bJ [] Tryz.results45 rfl aP ⟨rfl,rfl⟩
theorem Renew_spec (n:Nat) (A:Option Addr) (l:List Arc) (cap:Nat) (Ab:Option Addr) (bs:List Int) (cb:Nat) (Ac:Option Addr) (R:List Row) (cc:Nat) (Ao:Option Addr) (O:List rC) (co:Nat) (D:Option Addr) (arcs:List Int) (cd:Nat) (ep e0:Int) (l0:List Arc) (w:World) (hG:GN (Fr w []) w n A l Ab bs Ac R) (hO:OvRo (Fr w []) w Ao O) (hD:Ro (Fr w []) w D (bF arcs)) (ha:arcs.length≤16384) (al:rD l arcs) (he:0≤ep∧ep≤1073741824) (ae:0≤e0∧e0≤ep) (aa:OvOk l0 (bG R) bs.length e0 (gJ O)) (ad:SameEnds l0 l) (hd:∀ i (h:i<l0.length) (h' :i<l.length),l[i]≠l0[i]→(i:Int)∈arcs):
    Meets Tryz.prog 15 [.agg #[.int .i64 (n:Int),.slice A l.length cap],.agg #[.slice Ab bs.length cb,.slice Ac R.length cc],.slice Ao O.length co,.slice D arcs.length cd,.int .i64 ep] w [] (fun u own' =>∃ (Os:List (List Mx)) (vs:List Value) (rs ds:List Seg) (bo:Nat) (an:Int),u= .tuple #[.slice (some ⟨bo,0,none⟩) bs.length bs.length,.int .i64 an,.int .i64 0]∧own' =[[(bo,blk vs 141)],rs.flatten,ds.flatten]∧BRep Os vs rs ds∧OvOk l (bG R) bs.length ep Os):=by
 have am:=hG
 obtain ⟨hr,hok,hn,U⟩:=am
 obtain ⟨ap,aq,hlen,ar⟩:=bS U.g
 have hl:l.length≤9223372036854775807:=aA
 have hN:I64 (n:Int):=by constructor<;>omega
 have ak:=U.len
 rw [d5] at ak;have aj:=U.many
 have hF:=aa.fit ad
 have ab:snE (n:Int) l bs (bG R) arcs=0:=by
   have ah:arcs.any (offA l.length)=false:=List.any_eq_false.2 fun x hx=>by
     obtain ⟨i,rfl,hi⟩:=al x hx
     unfold offA;simp;omega
   unfold snE;rw [if_neg (by rw [U.zero];simp),if_neg aA,if_neg (by rw [ah];simp)]
 refine bE Tryz.func15 rfl Tryz.ntmps15 rfl Owns.nil<|aG fun kh1=>f_S (cT rfl rfl fun b5=>?_)
 refine f_S (cT rfl rfl fun b6=>?_);refine aB 3 rfl<|aD kh1<|aS fun kh2=>aG fun kh3=>f_Q (aO (vs:=[_,_]) Tryz.isAgg24 Tryz.sizeOf24 rfl rfl ⟨(rdA rfl),(rdA rfl),trivial⟩)<|f_Q (aO (vs:=[_,_]) Tryz.isAgg34 Tryz.sizeOf34 rfl rfl ⟨(rdA rfl),(rdA rfl),trivial⟩)<|aB 1 rfl ?_
 refine f_S (aV Tryz.call42 rfl (fun X F=>oCheck_spec n A l cap Ab bs cb Ac R cc Ao O co e0 X (hG.up0 F) (hO.up0 F) aA hF) ?_);rintro _ _ ⟨rfl,rfl⟩;dsimp only [aK,aJ];refine aB 1 rfl<|aD kh3<|aG fun kh4=>aB 2 rfl<|aD kh4<|dX rfl aN<|bV kh2<|aG fun kh5=>f_Q (aO (vs:=[_,_]) Tryz.isAgg24 Tryz.sizeOf24 rfl rfl ⟨(rdA rfl),(rdA rfl),trivial⟩)<|f_Q (aO (vs:=[_,_]) Tryz.isAgg34 Tryz.sizeOf34 rfl rfl ⟨(rdA rfl),(rdA rfl),trivial⟩) ?_
 refine aB 1 rfl ?_;refine f_S (aV Tryz.call43 rfl (fun X F=>CStale_spec (n:Int) A l cap Ab bs cb Ac R cc D arcs cd X (hr.up0 F) hl hN hok (hn.up0 F) (hD.up0 F) aA) ?_);rintro _ _ ⟨R',As,cs,mc,ms,rfl,rfl,ai,ag,_,Z⟩;rw [ab];have Z:=Z ab
 have ao:R'.length=R.length:=by rw [← d5 R',Z];unfold stL;rw [List.length_map,d5]
 have J:∀ k (hk:k<R'.length),(R'[k]).2.1=o4 ((bG R).getD k []) l arcs:=fun k hk=>by
   rw [← iF hk,Z];simp [stL,List.getD_eq_getElem?_getD,show k<(bG R).length by rw [d5];omega]
 dsimp only [aK,aJ];refine aB 3 rfl<|f_S (cQ Tryz.zeroValue32 rfl fun b14=>?_)
 refine f_Z (bU Tryz.sizeOf32 rfl rfl rfl rfl cF [.slice As R'.length cs] rfl ?_);refine aB 1 rfl<|aD kh5<|aS fun kh6=>aG fun kh7=>aB 2 rfl<|aD kh7<|dX rfl aN<|bV kh6<|aS fun kh8=>aG fun kh9=>?_
 refine aB 1 rfl ?_;refine f_S (aV Tryz.call39 rfl (fun X F=>oepochs_spec ep X he) ?_);rintro _ _ ⟨rfl,rfl⟩;dsimp only [aK,aJ];refine aB 4 rfl ?_
 refine jY rfl rfl rfl rfl rfl (aV Tryz.call44 rfl (fun X F=>late_spec Ao O co e0 X (hO.up0 F) ae.1 (fun k c x hx=>by
   by_cases hk:k<bs.length
   · exact (hF.at_ k c x hk hx).2.2.1.2
   · have h0:(gJ O).getD k []=[]:=by rw [List.getD_eq_getElem?_getD,List.getElem?_eq_none (by have:=hF.len;omega)];rfl
     rw [h0] at hx;simp at hx)) ?_)
 rintro _ _ ⟨y,rfl,rfl,hy⟩;dsimp only [aK,aJ];refine aB 2 rfl<|aD kh9<|dX rfl aA<|bV kh8<|aG fun kh10=>f_Q (aO (vs:=[_,_]) Tryz.isAgg24 Tryz.sizeOf24 rfl rfl ⟨(rdA rfl),(rdA rfl),trivial⟩)<|f_Q (aO (vs:=[_,_]) Tryz.isAgg34 Tryz.sizeOf34 rfl rfl ⟨(rdA rfl),(rdA rfl),trivial⟩)<|aB 2 rfl<|f_Q (kT rfl rfl) ?_
 refine f_S (aV Tryz.call40 rfl (fun X F=>build_spec n A l cap Ab bs cb Ac R cc Ao O co ep (fateR (bG R) l arcs) 45 [.pointer (some ⟨b14,0,none⟩)] X (hG.up0 F) (hO.up0 F) he (fates_new aa ad ae.2 hd) Tryz.call45 (fun w' hs k c hk _=>by
   have Y:k<R'.length:=aA
   have h:=Renew1_spec k c b14 As R' cs w' (oQ F hs) (Ro.held (eS (ai.seen F)) hs) (fun r hr=>Ro.held (ag.ro F r hr).1 hs) Y aA (by rw [J k Y];exact stRow_rising _ _ _) (by rw [J k Y];have:=stRow_len ((bG R).getD k []) l arcs;omega)
   rw [J k Y] at h;exact h)) ?_)
 rintro _ _ ⟨Os,vs,rs,ds,bo,an,rfl,rfl,hB,ac⟩;dsimp only [aK,aJ];refine aB 6 rfl<|aD kh10<|aY ?_
 exact kH [[(bo,blk vs 141)],rs.flatten,ds.flatten] Tryz.results15 rfl rfl rfl aC ⟨Os,vs,rs,ds,bo,an,rfl,rfl,hB,ac⟩
def TblR (n:Nat) (E:List Arc) (b:Nat) (m:Seg):Prop:=
 ∃ ents c vs ms,m.Perm ([[(b,e7 iM ents c)],(ms:List Seg).flatten]:List Seg).flatten∧LinkR 113 n E ents vs ms
theorem TblR.mk {n:Nat} {E:List Arc} {b c:Nat} {ents:List (Int×Value×Nat)} {vs:List Value} {ms:List Seg} (h:LinkR 113 n E ents vs ms):TblR n E b ([[(b,e7 iM ents c)],ms.flatten]:List Seg).flatten:=⟨ents,c,vs,ms,List.Perm.refl _,h⟩
def putE (E:List Arc) (a:Arc):List Arc:=if a.wt<INF then E++[a] else E
theorem nZ (E:List Arc) (a:Arc) (b:Bool):(E++[a]).map (trn b)=E.map (trn b)++[trn b a]:=aN
theorem apV_down {L:List (List Int)} {u v k:Nat}:∀ {K:Nat},k≤K→(∀ j,k≤j→j<K→(L.getD j []).getD u 0=(L.getD j []).getD v 0)→apV L u v K=apV L u v k
 |0,h,_=>by rw [show k=0 by omega]
 |K+1,h,he=>by
  by_cases e:k=K+1
  ·rw [e]
  ·rw [show apV L u v (K+1)=(if (L.getD K []).getD u 0≠(L.getD K []).getD v 0 then K+1 else apV L u v K) from rfl,if_neg (fun hne=>hne (he K aA aA))]
   exact apV_down aA fun j h1 h2=>he j h1 aA
def fstI (L:List Int) (c:Int):Int:=match L.findIdx? (fun x=>decide (x=c)) with
 |some i=>(i:Int)
 |none=> -1
theorem fstI_at {L:List Int} {c:Int} {k:Nat} (hk:k<L.length) (he:L[k]=c) (h:∀ j (hj:j<L.length),j<k→L[j]≠c):fstI L c=(k:Int):=by
 have:L.findIdx? (fun x=>decide (x=c))=some k:=by
  rw [List.findIdx?_eq_some_iff_getElem];exact ⟨hk,by simp [he],fun j hj=>by simpa using h j aA hj⟩
 unfold fstI;rw [this]
theorem fstI_none {L:List Int} {c:Int} (h:∀ j (hj:j<L.length),L[j]≠c):fstI L c= -1:=by
 have:L.findIdx? (fun x=>decide (x=c))=none:=by
  rw [List.findIdx?_eq_none_iff];intro x hx;obtain ⟨j,hj,rfl⟩:=List.mem_iff_getElem.1 hx
  simpa using h j hj
 unfold fstI;rw [this]
theorem fstI_in {L:List Int} {c:Int} (h:c∈L):∃ v:Nat,fstI L c=(v:Int)∧v<L.length∧L.getD v 0=c:=by
 cases e:L.findIdx? (fun x=>decide (x=c)) with
 |none=>
  rw [List.findIdx?_eq_none_iff] at e;have:=e c h
  simp at this
 |some i=>
  have e2:=e
  rw [List.findIdx?_eq_some_iff_getElem] at e2;obtain ⟨h1,h2,_⟩:=e2
  exact ⟨i,by unfold fstI;rw [e],h1,by rw [eM h1];simpa using h2⟩
def cqC (l:List Arc) (L:List Int) (p:Int→Bool) (row:List Mx) (c:Nat):List Arc:=(List.range c).flatMap fun j:Nat=>if p (fstI L (j:Int)) then mxE (bdL L (j:Int) l) (row[j]?.getD ⟨0,0,0,none,[],0⟩).D (row[j]?.getD ⟨0,0,0,none,[],0⟩).D.length else []
theorem cqC_next {l:List Arc} {L:List Int} {p:Int→Bool} {row:List Mx} {c:Nat} (hc:c<row.length):cqC l L p row (c+1)=cqC l L p row c++if p (fstI L (c:Int)) then mxE (bdL L (c:Int) l) row[c].D row[c].D.length else []:=by
 unfold cqC;rw [List.range_succ,List.flatMap_append];simp [hc]
def cqK (l:List Arc) (Ls:List (List Int)) (p:Nat→Int→Bool) (F:List (List Mx)) (k:Nat):List Arc:=(List.range k).flatMap fun i=>cqC l (Ls.getD i []) (p i) (F.getD i []) (F.getD i []).length
theorem cqK_next (l:List Arc) (Ls:List (List Int)) (p:Nat→Int→Bool) (F:List (List Mx)) (k:Nat):cqK l Ls p F (k+1)=cqK l Ls p F k++cqC l (Ls.getD k []) (p k) (F.getD k []) (F.getD k []).length:=by
 unfold cqK;rw [List.range_succ,List.flatMap_append];simp
theorem putE_mx {B D:List Int} {X:List Arc} {j q r:Nat} {u v:Int} (hq:j / B.length=q) (hr:j % B.length=r) (F:B.getD q 0=u) (hv:B.getD r 0=v):putE (X++mxE B D j) ⟨u,v,dg D j⟩=X++mxE B D (j+1):=by
 rw [mxE_next,← List.append_assoc]
 unfold putE mxA
 rw [hq,hr,F,hv];dsimp only
 split
 ·rfl
 ·rw [List.append_nil]
theorem cqC_len {l:List Arc} {L:List Int} {p:Int→Bool} {row:List Mx} (h:∀ m∈row,m.D.length≤268435456):∀ {c:Nat},c≤row.length→(cqC l L p row c).length≤c*268435456
 |0,_=>by simp [cqC]
 |c+1,hc=>by
  have h1:=cqC_len (l:=l) (L:=L) (p:=p) h (c:=c) aA
  have h2:=h _ (List.getElem_mem (show c<row.length by omega))
  rw [cqC_next aA,List.length_append]
  split
  ·have:=mxE_len (bdL L (c:Int) l) row[c].D row[c].D.length;omega
  ·rw [List.length_nil,Nat.add_zero,Nat.succ_mul];exact Nat.le_trans h1 (Nat.le_add_right _ _)
theorem cqK_len {l:List Arc} {Ls:List (List Int)} {p:Nat→Int→Bool} {F:List (List Mx)} (h:∀ k,k<F.length→(F.getD k []).length≤1024∧∀ m∈F.getD k [],m.D.length≤268435456):∀ {k:Nat},k≤F.length→(cqK l Ls p F k).length≤k*274877906944
 |0,_=>by simp [cqK]
 |k+1,hk=>by
  have h1:=cqK_len (l:=l) (Ls:=Ls) (p:=p) h (k:=k) aA
  obtain ⟨h2,h3⟩:=h k aA
  have J:=cqC_len (l:=l) (L:=Ls.getD k []) (p:=p k) h3 (Nat.le_refl _)
  rw [cqK_next,List.length_append];omega
theorem OvFit.small {n:Nat} {l:List Arc} {bs:List Int} {Ls:List (List Int)} {ep:Int} {J:List (List Mx)} (O:NestOk n l bs Ls) (hlen:l.length≤8192) (h:OvFit l Ls bs.length ep J):∀ k,k<J.length→(J.getD k []).length≤1024∧∀ m∈J.getD k [],m.D.length≤268435456:=fun k hk=>by
 have F:k<bs.length:=by rw [← h.len];exact hk
 have h1:=h.row k F
 have h2:=many_pos O F
 refine ⟨aA,fun m hm=>?_⟩;obtain ⟨c,hc,rfl⟩:=List.mem_iff_getElem.1 hm
 have h3:=h.at_ k c _ F (List.getElem?_eq_getElem hc)
 have U:=pY (Ls.getD k []) (c:Int) l
 rw [h3.2.2.2];exact Nat.le_trans (Nat.mul_le_mul (show _≤16384 by omega) (show _≤16384 by omega)) (by decide)
theorem cell_in {n:Nat} {l:List Arc} {bs:List Int} {Ls:List (List Int)} (F:NestOk n l bs Ls) {k c:Nat} (hk:k<bs.length) (hc:(c:Int)≤e9 (Ls.getD k [])):(c:Int)∈Ls.getD k []:=by
 have h1:=mem_pos (F.right hk) F.n1.1 (j:=c) aA
 obtain ⟨v,_,hv,e⟩:=memTo_mem.1 (List.getElem_mem h1)
 rw [← e,eM hv];exact List.getElem_mem _
theorem Index_spec (A:Option Addr) (L:List Int) (cap:Nat) (c:Int) (w:World) (hr:Ro (Fr w []) w A (bF L)) (hm:L.length≤9223372036854775807):
    Meets Tryz.prog 78 [.slice A L.length cap,.int .i64 c] w [] (fun u m=>u= .int .i64 (fstI L c)∧m=[]):=by
 refine bE Tryz.func78 rfl Tryz.ntmps78 rfl Owns.nil<|aG fun kh1=>aB 1 rfl<|aD kh1<|aS fun kh2=>aG fun O=>aB 1 rfl<|dU bX rfl<|aB 1 rfl<|aD O ?_
 refine aR ?_;refine dA (α:=Nat) [0,1,7] (fun k=>[(8,.int .i64 (k:Int))]) (fun k=>[]) (fun k=>k≤L.length∧∀ j (hj:j<L.length),j<k→L[j]≠c) (fun k=>L.length - k) (0) ?_ ?_ ?_ ?_
 ·exact aF
 ·exact aC
 ·exact ⟨Nat.zero_le _,fun j _ h=>aA⟩
 ·rintro k ⟨U,F⟩;refine aG fun kh4=>aB 1 rfl<|aD kh4<|aS fun kh5=>aX rfl (fun Y=>?_) (fun Y=>?_)
  ·have hk:k<L.length:=aA
   obtain ⟨b,o,rfl,X,hc⟩:=hr (fX hk)
   refine bV kh5<|aS fun kh6=>aR<|aG fun kh7=>aB 2 rfl<|aD kh7<|aG fun kh8=>aB 3 rfl<|f_Q (aL bX rfl rfl (o+k))<|f_Q (aH Tryz.isAgg3 rfl (d3 (enc:=(.int .i64 ·)) X hc hk)) ?_
   refine aB 1 rfl<|aD kh8<|aX rfl (fun c16=>?_) (fun c16=>?_)
   ·refine aG fun J=>aB 2 rfl<|aD J<|aY<|fA<|cV<|cV<|fA<|cV ?_
    exact bJ [] Tryz.results78 rfl aP ⟨by rw [fstI_at hk c16.symm F],rfl⟩
   ·refine dY<|dF<|bO kh6<|aI<|f_Q (a8 rfl rfl)<|aB 1 rfl<|aZ ?_
    refine cS (a6 (k+1) (by first|omega|(dsimp only;omega)|(simp;omega)) ⟨aA,fun j hj h=>by
      by_cases e:j=k
      ·subst e;exact fun e2=>c16 e2.symm
      ·exact F j hj aA⟩ ?_ ?_ ?_)
    ·exact aF
    ·exact aF
    ·exact aC
  ·obtain rfl:k=L.length:=aA
   refine cN<|cO<|cO<|eC<|bO kh2<|aG fun kh10=>aB 1 rfl<|aD kh10<|aY ?_
   exact bJ [] Tryz.results78 rfl aP ⟨by rw [fstI_none (fun j hj=>F j hj hj)],rfl⟩
theorem apart_spec (Ab:Option Addr) (bs:List Int) (cb:Nat) (Ac:Option Addr) (R:List Row) (cc:Nat) (n s t u v:Nat) (w:World) (hn:NestRo (Fr w []) w Ab bs Ac R) (hlen:∀ r∈R,r.2.1.length=n) (ak:R.length≤5) (hu:u<n) (hv:v<n):
    Meets Tryz.prog 79 [.agg #[.slice Ab bs.length cb,.slice Ac R.length cc,.int .i64 (s:Int),.int .i64 (t:Int)],.int .i64 (u:Int),.int .i64 (v:Int)] w [] (fun x m=>x= .int .i64 ((apV (bG R) u v R.length:Nat):Int)∧m=[]):=by
 refine bE Tryz.func79 rfl Tryz.ntmps79 rfl Owns.nil<|aG fun kh1=>f_S (cT rfl rfl fun b3=>?_)
 refine aB 1 rfl<|aD kh1<|aS fun kh2=>aG fun ah=>cL fa101_0 rfl<|cL jD rfl<|cX Tryz.isAgg32 rfl (rdA rfl)<|dU gL rfl<|aB 1 rfl<|aD ah ?_
 refine aR ?_;refine lU (α:=Nat) [1,2,3] (fun k=>[(7,.int .i64 (k:Int))]) (fun k=>k≤R.length∧∀ j,k≤j→j<R.length→((bG R).getD j []).getD u 0=((bG R).getD j []).getD v 0) (fun k=>k) (R.length) ?_ ?_ ?_
 ·exact aF
 ·exact ⟨Nat.le_refl _,fun j h1 h2=>aA⟩
 ·rintro k ⟨aj,O⟩;refine aS fun ag=>aG fun kh5=>aB 2 rfl<|aD kh5<|aX rfl (fun c13=>?_) (fun c13=>?_)
  ·obtain ⟨J,rfl⟩:∃ J,k=J+1:=⟨k - 1,aA⟩
   have F:J<R.length:=aA
   obtain ⟨b0,o0,aa,ac,ab⟩:=hn.c (fX F)
   have al:=hlen _ (List.getElem_mem F)
   obtain ⟨br, or, Y, Z, ad⟩ := (hn.rows _ (List.getElem_mem F)).1 (fun e => by have := a7 (R[J]'F).2.1; rw [e] at this; simp at this; omega)
   have U : u < (R[J]'F).2.1.length := aA
   have X : v < (R[J]'F).2.1.length := aA
   have ae:=iF F
   have hne : ((bG R).getD J []).getD u 0 ≠ ((bG R).getD J []).getD v 0 ↔ (R[J]'F).2.1[u] ≠ (R[J]'F).2.1[v] := by rw [ae, eM U, eM X]
   refine bV ag<|aS fun kh6=>aR<|aS fun kh7=>gV rfl aW<|dB (aT fa101_0 rfl)<|dB (aT jD rfl)<|dB (aH Tryz.isAgg32 rfl (v:= .slice (some ⟨b0,o0,none⟩) R.length cc) (rdA (by rw [← aa];rfl))) ?_
   refine dI 1 rfl<|dB (kM rfl rfl _ (Eq.trans (d7 aA) (show _=(J:Int) by omega))) ?_
   refine dB (aL gL rfl rfl (o0 + J)) <| dB (aH Tryz.isAgg25 rfl (v := .slice (some ⟨br, or, none⟩) (R[J]'F).2.1.length (R[J]'F).2.2) (show Rd _ _ _ _ _ (Value.slice (some ⟨br, or, none⟩) (R[J]'F).2.1.length (R[J]'F).2.2) by rw [← Y]; exact d3 (enc := fG) ac ab F)) ?_;refine dI 1 rfl <| dB (aL bX rfl rfl (or + u)) <| dB (aH Tryz.isAgg3 rfl (d3 (enc := (.int .i64 ·)) Z ad U)) <| dB (aT fa101_0 rfl) <| dB (aT jD rfl) <| dB (aH Tryz.isAgg32 rfl (v := .slice (some ⟨b0, o0, none⟩) R.length cc) (rdA (by rw [← aa]; rfl))) ?_
   refine dI 1 rfl<|dB (kM rfl rfl _ (Eq.trans (d7 aA) (show _=(J:Int) by omega))) ?_
   refine dB (aL gL rfl rfl (o0 + J)) <| dB (aH Tryz.isAgg25 rfl (v := .slice (some ⟨br, or, none⟩) (R[J]'F).2.1.length (R[J]'F).2.2) (show Rd _ _ _ _ _ (Value.slice (some ⟨br, or, none⟩) (R[J]'F).2.1.length (R[J]'F).2.2) by rw [← Y]; exact d3 (enc := fG) ac ab F)) ?_;refine dI 1 rfl <| dB (aL bX rfl rfl (or + v)) <| dB (aH Tryz.isAgg3 rfl (d3 (enc := (.int .i64 ·)) Z ad X)) <| dI 1 rfl <| eI <| bO kh7 <| aX rfl (fun c36 => ?_) (fun c36 => ?_)
   ·refine aG fun ai=>aB 2 rfl<|aD ai<|aY<|fA<|cV<|cV<|fA<|cV ?_
    exact bJ [] Tryz.results79 rfl aP ⟨by rw [apV_down (k:=J+1) aA O];unfold apV;rw [if_pos (hne.2 c36)],rfl⟩
   ·refine dY<|dF<|bO kh6<|aI<|aB 1 rfl<|f_Q (kM rfl rfl _ (Eq.trans (d7 aA) (show _=(J:Int) by omega))) ?_
    refine aB 1 rfl<|aZ ?_
    refine cS (a6 (J) (by first|omega|(dsimp only;omega)|(simp;omega)) ⟨aA,fun j h1 h2=>by
      by_cases e:j=J
      ·subst e;exact Classical.not_not.1 fun h=>c36 (hne.1 h)
      ·exact O j aA h2⟩ ?_ ?_ ?_)
    ·exact aF
    ·exact aF
    ·exact aC
  ·refine cN<|cO<|cO<|eC<|bO kh2<|aG fun kh9=>aB 1 rfl<|aD kh9<|aY ?_
   obtain rfl:k=0:=aA
   exact bJ [] Tryz.results79 rfl aP ⟨by rw [apV_down (k:=0) aA O];rfl,rfl⟩
theorem qat_spec (O:Option Addr) (bs:List Int) (cb:Nat) (J:Option Addr) (R:List Row) (cc:Nat) (n s t v:Nat) (w:World) (hn:NestRo (Fr w []) w O bs J R) (hlen:∀ r∈R,r.2.1.length=n) (U:R.length≤5) (hs:s<n) (Y:t<n) (hv:v<n):
    Meets Tryz.prog 50 [.agg #[.slice O bs.length cb,.slice J R.length cc,.int .i64 (s:Int),.int .i64 (t:Int)],.int .i64 (v:Int)] w [] (fun x m=>x= .int .i64 ((atV (bG R) s t R.length v:Nat):Int)∧m=[]):=by
 refine bE Tryz.func50 rfl Tryz.ntmps50 rfl Owns.nil<|aG fun kh1=>f_S (cT rfl rfl fun Z=>?_)
 refine aB 1 rfl<|aD kh1<|aS fun kh2=>c7 [[(Z,blk [.slice O bs.length cb,.slice J R.length cc,.int .i64 (s:Int),.int .i64 (t:Int)] 101)]] rfl<|f_T 0 rfl (aO (vs:=[_,_,_,_]) Tryz.isAgg101 Tryz.sizeOf101 rfl rfl ⟨(rdA rfl),(rdA rfl),(rdA rfl),(rdA rfl),trivial⟩)<|f_T 1 rfl (aU rfl)<|f_T 2 rfl (aT fa101_1 rfl)<|f_T 3 rfl (aH Tryz.isAgg3 rfl (rdA rfl))<|f_T 5 rfl (aO (vs:=[_,_,_,_]) Tryz.isAgg101 Tryz.sizeOf101 rfl rfl ⟨(rdA rfl),(rdA rfl),(rdA rfl),(rdA rfl),trivial⟩)<|f_T 6 rfl (aU rfl) ?_
 refine f_T 7 rfl (aT fa101_2 rfl)<|f_T 8 rfl (aH Tryz.isAgg3 rfl (rdA rfl)) ?_
 refine f_O 4 rfl (aV Tryz.call79 rfl (fun X F=>apart_spec O bs cb J R cc n s t v s X (hn.up0 F) hlen U hv hs) ?_);rintro _ _ ⟨rfl,rfl⟩;dsimp only [aK,aJ];refine ⟨aC,?_⟩;refine f_O 9 rfl (aV Tryz.call79 rfl (fun X F=>apart_spec O bs cb J R cc n s t v t X (hn.up0 F) hlen U hv Y) ?_);rintro _ _ ⟨rfl,rfl⟩;dsimp only [aK,aJ];refine ⟨aC,?_⟩;refine f_T 10 rfl (o_min rfl rfl)<|f_O 11 rfl ((bI rfl).does ⟨aC,?_⟩)
 refine cU aW<|bO kh2<|aY ?_
 exact bJ [] Tryz.results50 rfl aP ⟨by unfold atV;congr 1;omega,rfl⟩
theorem qlooked_spec (n:Nat) (A:Option Addr) (l:List Arc) (cap:Nat) (J:Option Addr) (bs:List Int) (cb:Nat) (X:Option Addr) (R:List Row) (cc:Nat) (U:Option Addr) (O:List rC) (Y:Nat) (ep:Int) (s t:Nat) (w:World) (hG:GN (Fr w []) w n A l J bs X R) (Z:OvRo (Fr w []) w U O) (he:ep≤1073741824) (hF:OvFit l (bG R) bs.length ep (gJ O)) (hs:s<n) (ht:t<n):
    Meets Tryz.prog 47 [.agg #[.int .i64 (n:Int),.slice A l.length cap],.agg #[.slice J bs.length cb,.slice X R.length cc],.slice U O.length Y,.int .i64 (s:Int),.int .i64 (t:Int)] w [] (fun u own' =>u= .int .i64 0∧own' =[]):=by
 refine bE Tryz.func47 rfl Tryz.ntmps47 rfl Owns.nil<|aG fun kh1=>f_S (cT rfl rfl fun b5=>?_)
 refine f_S (cT rfl rfl fun b6=>?_);refine aB 1 rfl<|aD kh1<|aS fun kh2=>aG fun kh3=>f_Q (aO (vs:=[_,_]) Tryz.isAgg24 Tryz.sizeOf24 rfl rfl ⟨(rdA rfl),(rdA rfl),trivial⟩)<|f_Q (aO (vs:=[_,_]) Tryz.isAgg34 Tryz.sizeOf34 rfl rfl ⟨(rdA rfl),(rdA rfl),trivial⟩)<|aB 1 rfl ?_
 refine f_S (aV Tryz.call42 rfl (fun w_ F=>oCheck_spec n A l cap J bs cb X R cc U O Y ep w_ (hG.up0 F) (Z.up0 F) he hF) ?_);rintro _ _ ⟨rfl,rfl⟩;dsimp only [aK,aJ];refine aB 1 rfl<|aD kh3<|aG fun kh4=>aB 2 rfl<|aD kh4<|dX rfl aN<|bV kh2<|aS fun kh5=>aG fun kh6=>aB 3 rfl ?_
 refine iY 21 rfl aA<|aB 1 rfl<|eA rfl rfl (aT eT rfl)<|eA rfl rfl (aH Tryz.isAgg3 rfl (rdA rfl))<|aB 3 rfl<|iY 27 rfl aA<|aB 4 rfl<|iY 31 rfl aA<|aB 1 rfl<|eA rfl rfl (aT eT rfl) ?_
 refine eA rfl rfl (aH Tryz.isAgg3 rfl (rdA rfl))<|aB 2 rfl<|aD kh6<|dX rfl aA<|bV kh5<|aG fun kh7=>aB 1 rfl<|aD kh7<|aY ?_
 exact bJ [] Tryz.results47 rfl aP ⟨rfl,rfl⟩
theorem put_spec (n:Nat) (E:List Arc) (ae ad:Nat) (m1 m2:Seg) (u v:Nat) (d:Int) (w:World) (ba:TblR n (E.map (trn false)) ae m1) (aw:TblR n (E.map (trn true)) ad m2) (bh:u<n) (a2:v<n) (bB:E.length≤8000000000000) (hw:Owns w [m1,m2]):
    Meets Tryz.prog 51 [.agg #[.map (some ae),.map (some ad)],.int .i64 (u:Int),.int .i64 (v:Int),.int .u64 d] w [m1,m2] (fun x own' =>∃ m1' m2',x= .tuple #[]∧own' =[m1',m2']∧TblR n ((putE E ⟨(u:Int),(v:Int),d⟩).map (trn false)) ae m1'∧TblR n ((putE E ⟨(u:Int),(v:Int),d⟩).map (trn true)) ad m2'):=by
 refine bE Tryz.func51 rfl Tryz.ntmps51 rfl hw<|aG fun kh1=>f_S (cT rfl rfl fun b4=>?_)
 refine aD kh1<|aG fun kh2=>aB 2 rfl<|aD kh2<|aX rfl (fun c9=>?_) (fun c9=>?_)
 ·have ab:putE E ⟨(u:Int),(v:Int),d⟩=E++[⟨(u:Int),(v:Int),d⟩]:=by unfold putE;rw [if_pos c9]
  refine aS fun bf=>?_;obtain ⟨J,O,bw,au,bc,bq⟩:=ba
  obtain ⟨bt,bv,be,al,am,ay,X⟩:=bq.split bh
  have a1:=outs_le (E.map (trn false)) u
  rw [List.length_map] at a1;obtain ⟨bD,bC,rfl,bu⟩:=am.val
  refine eP (Sub.openAt (m:=m1) bc) ?_;dsimp only [aK,aJ];refine eP (Sub.splitF ay)<|c7 [[(b4,blk [.map (some ae),.map (some ad)] 105)]] rfl<|f_T 0 rfl (aT fa105_0 rfl)<|f_T 1 rfl (aH Tryz.isAgg103 rfl (rdA rfl))<|f_T 2 rfl (aU rfl)<|f_T 3 rfl (aT fa105_0 rfl)<|f_T 4 rfl (aH Tryz.isAgg103 rfl (rdA rfl))<|f_T 5 rfl (aU rfl)<|f_T 7 rfl (aU rfl)<|f_T 8 rfl (aU rfl) ?_;refine f_T 9 rfl (dL st113 rfl rfl)<|gH 6 10 rfl rfl aW rfl rfl rfl rfl rfl rfl ?_ ?_
  ·refine (fD pN Tryz.zeroValue114 rfl rfl rfl _ al).does ⟨aC,?_⟩;refine f_O 10 rfl (bQ l9 aA rfl rfl rfl fun bj=>⟨aC,?_⟩);refine f_O 11 rfl (dE l9 rfl rfl am (ys:=[.int .i64 (v:Int),.int .u64 d]) ⟨(rdA rfl),(rdA rfl),trivial⟩ rfl rfl aA aA fun ap ai ah=>⟨aC,?_⟩);refine fZ 12 rfl (e8 pN rfl rfl rfl rfl ⟨aC,?_⟩);refine cU aW<|bO bf<|eP (Sub.joinF (m:=ai) (G' :=be) (X (trn false ⟨(u:Int),(v:Int),d⟩) _ _ O (Int.toNat_natCast u) ah).2) ?_
   obtain ⟨F,U,bi,aq,an,av⟩:=aw
   obtain ⟨az,br,ar,Y,Z,ak,ac⟩:=av.split a2
   have ao:=outs_le (E.map (trn true)) v
   rw [List.length_map] at ao;obtain ⟨bk,bp,rfl,bg⟩:=Z.val
   refine eP (Sub.openAt (m:=m2) an) ?_;dsimp only [aK,aJ];refine eP (Sub.splitF ak)<|c7 [[(b4,blk [.map (some ae),.map (some ad)] 105)]] rfl<|f_T 0 rfl (aT fa105_1 rfl)<|f_T 1 rfl (aH Tryz.isAgg103 rfl (rdA rfl))<|f_T 2 rfl (aU rfl)<|f_T 3 rfl (aT fa105_1 rfl)<|f_T 4 rfl (aH Tryz.isAgg103 rfl (rdA rfl))<|f_T 5 rfl (aU rfl)<|f_T 7 rfl (aU rfl)<|f_T 8 rfl (aU rfl) ?_;refine f_T 9 rfl (dL st113 rfl rfl)<|gH 6 10 rfl rfl aW rfl rfl rfl rfl rfl rfl ?_ ?_
   ·refine (fD pN Tryz.zeroValue114 rfl rfl rfl _ Y).does ⟨aC,?_⟩;refine f_O 10 rfl (bQ l9 aA rfl rfl rfl fun ax=>⟨aC,?_⟩);refine f_O 11 rfl (dE l9 rfl rfl Z (ys:=[.int .i64 (u:Int),.int .u64 d]) ⟨(rdA rfl),(rdA rfl),trivial⟩ rfl rfl aA aA fun aj aa ag=>⟨aC,?_⟩);refine fZ 12 rfl (e8 pN rfl rfl rfl rfl ⟨aC,?_⟩);refine cU aW ?_;have h1:=(X (trn false ⟨(u:Int),(v:Int),d⟩) _ _ O (Int.toNat_natCast u) ah).1
    have h2:=ac (trn true ⟨(u:Int),(v:Int),d⟩) _ _ U (Int.toNat_natCast v) ag
    rw [← nZ] at h1;exact iP [_,_] Tryz.results51 (Sub.transF (Sub.joinF (m:=aa) (G' :=ar) h2.2) (Sub.flatTwo (out1:=[[(ae,e7 iM (fS J (u:Int) ap O) (fK J (u:Int) O))],(au.set u ai).flatten]) (out2:=[[(ad,e7 iM (fS F (v:Int) aj U) (fK F (v:Int) U))],(aq.set v aa).flatten]) (by dsimp only [aK,aJ];repeat first|exact aP|refine aM ?_|refine cE rfl ?_|refine fU ?_))) ⟨_,_,rfl,rfl,by rw [ab];exact TblR.mk h1,by rw [ab,nZ];exact TblR.mk h2.1⟩
   ·refine (bQ l9 aA rfl rfl rfl fun ax=>⟨aC,?_⟩);refine f_O 6 rfl ((fD pN Tryz.zeroValue114 rfl rfl rfl _ Y).does ⟨aC,?_⟩);refine f_O 11 rfl (dE l9 rfl rfl Z (ys:=[.int .i64 (u:Int),.int .u64 d]) ⟨(rdA rfl),(rdA rfl),trivial⟩ rfl rfl aA aA fun aj aa ag=>⟨aC,?_⟩);refine fZ 12 rfl (e8 pN rfl rfl rfl rfl ⟨aC,?_⟩);refine cU aW ?_;have h1:=(X (trn false ⟨(u:Int),(v:Int),d⟩) _ _ O (Int.toNat_natCast u) ah).1
    have h2:=ac (trn true ⟨(u:Int),(v:Int),d⟩) _ _ U (Int.toNat_natCast v) ag
    rw [← nZ] at h1;exact iP [_,_] Tryz.results51 (Sub.transF (Sub.joinF (m:=aa) (G' :=ar) h2.2) (Sub.flatTwo (out1:=[[(ae,e7 iM (fS J (u:Int) ap O) (fK J (u:Int) O))],(au.set u ai).flatten]) (out2:=[[(ad,e7 iM (fS F (v:Int) aj U) (fK F (v:Int) U))],(aq.set v aa).flatten]) (by dsimp only [aK,aJ];repeat first|exact aP|refine aM ?_|refine cE rfl ?_|refine fU ?_))) ⟨_,_,rfl,rfl,by rw [ab];exact TblR.mk h1,by rw [ab,nZ];exact TblR.mk h2.1⟩
  ·refine (bQ l9 aA rfl rfl rfl fun bj=>⟨aC,?_⟩);refine f_O 6 rfl ((fD pN Tryz.zeroValue114 rfl rfl rfl _ al).does ⟨aC,?_⟩);refine f_O 11 rfl (dE l9 rfl rfl am (ys:=[.int .i64 (v:Int),.int .u64 d]) ⟨(rdA rfl),(rdA rfl),trivial⟩ rfl rfl aA aA fun ap ai ah=>⟨aC,?_⟩);refine fZ 12 rfl (e8 pN rfl rfl rfl rfl ⟨aC,?_⟩);refine cU aW<|bO bf<|eP (Sub.joinF (m:=ai) (G' :=be) (X (trn false ⟨(u:Int),(v:Int),d⟩) _ _ O (Int.toNat_natCast u) ah).2) ?_
   obtain ⟨F,U,bi,aq,an,av⟩:=aw
   obtain ⟨az,br,ar,Y,Z,ak,ac⟩:=av.split a2
   have ao:=outs_le (E.map (trn true)) v
   rw [List.length_map] at ao;obtain ⟨bk,bp,rfl,bg⟩:=Z.val
   refine eP (Sub.openAt (m:=m2) an) ?_;dsimp only [aK,aJ];refine eP (Sub.splitF ak)<|c7 [[(b4,blk [.map (some ae),.map (some ad)] 105)]] rfl<|f_T 0 rfl (aT fa105_1 rfl)<|f_T 1 rfl (aH Tryz.isAgg103 rfl (rdA rfl))<|f_T 2 rfl (aU rfl)<|f_T 3 rfl (aT fa105_1 rfl)<|f_T 4 rfl (aH Tryz.isAgg103 rfl (rdA rfl))<|f_T 5 rfl (aU rfl)<|f_T 7 rfl (aU rfl)<|f_T 8 rfl (aU rfl) ?_;refine f_T 9 rfl (dL st113 rfl rfl)<|gH 6 10 rfl rfl aW rfl rfl rfl rfl rfl rfl ?_ ?_
   ·refine (fD pN Tryz.zeroValue114 rfl rfl rfl _ Y).does ⟨aC,?_⟩;refine f_O 10 rfl (bQ l9 aA rfl rfl rfl fun ax=>⟨aC,?_⟩);refine f_O 11 rfl (dE l9 rfl rfl Z (ys:=[.int .i64 (u:Int),.int .u64 d]) ⟨(rdA rfl),(rdA rfl),trivial⟩ rfl rfl aA aA fun aj aa ag=>⟨aC,?_⟩);refine fZ 12 rfl (e8 pN rfl rfl rfl rfl ⟨aC,?_⟩);refine cU aW ?_;have h1:=(X (trn false ⟨(u:Int),(v:Int),d⟩) _ _ O (Int.toNat_natCast u) ah).1
    have h2:=ac (trn true ⟨(u:Int),(v:Int),d⟩) _ _ U (Int.toNat_natCast v) ag
    rw [← nZ] at h1;exact iP [_,_] Tryz.results51 (Sub.transF (Sub.joinF (m:=aa) (G' :=ar) h2.2) (Sub.flatTwo (out1:=[[(ae,e7 iM (fS J (u:Int) ap O) (fK J (u:Int) O))],(au.set u ai).flatten]) (out2:=[[(ad,e7 iM (fS F (v:Int) aj U) (fK F (v:Int) U))],(aq.set v aa).flatten]) (by dsimp only [aK,aJ];repeat first|exact aP|refine aM ?_|refine cE rfl ?_|refine fU ?_))) ⟨_,_,rfl,rfl,by rw [ab];exact TblR.mk h1,by rw [ab,nZ];exact TblR.mk h2.1⟩
   ·refine (bQ l9 aA rfl rfl rfl fun ax=>⟨aC,?_⟩);refine f_O 6 rfl ((fD pN Tryz.zeroValue114 rfl rfl rfl _ Y).does ⟨aC,?_⟩);refine f_O 11 rfl (dE l9 rfl rfl Z (ys:=[.int .i64 (u:Int),.int .u64 d]) ⟨(rdA rfl),(rdA rfl),trivial⟩ rfl rfl aA aA fun aj aa ag=>⟨aC,?_⟩);refine fZ 12 rfl (e8 pN rfl rfl rfl rfl ⟨aC,?_⟩);refine cU aW ?_;have h1:=(X (trn false ⟨(u:Int),(v:Int),d⟩) _ _ O (Int.toNat_natCast u) ah).1
    have h2:=ac (trn true ⟨(u:Int),(v:Int),d⟩) _ _ U (Int.toNat_natCast v) ag
    rw [← nZ] at h1;exact iP [_,_] Tryz.results51 (Sub.transF (Sub.joinF (m:=aa) (G' :=ar) h2.2) (Sub.flatTwo (out1:=[[(ae,e7 iM (fS J (u:Int) ap O) (fK J (u:Int) O))],(au.set u ai).flatten]) (out2:=[[(ad,e7 iM (fS F (v:Int) aj U) (fK F (v:Int) U))],(aq.set v aa).flatten]) (by dsimp only [aK,aJ];repeat first|exact aP|refine aM ?_|refine cE rfl ?_|refine fU ?_))) ⟨_,_,rfl,rfl,by rw [ab];exact TblR.mk h1,by rw [ab,nZ];exact TblR.mk h2.1⟩
 ·have ab:putE E ⟨(u:Int),(v:Int),d⟩=E:=by unfold putE;rw [if_neg c9]
  refine dY ?_;exact iP [m1,m2] Tryz.results51 aC ⟨m1,m2,rfl,rfl,by rw [ab];exact ba,by rw [ab];exact aw⟩
theorem cliques_spec (n:Nat) (A:Option Addr) (l:List Arc) (cap:Nat) (Ab:Option Addr) (bs:List Int) (cb:Nat) (Ac:Option Addr) (R:List Row) (cc:Nat) (Ao:Option Addr) (O:List rC) (co:Nat) (ep:Int) (X U:Nat) (m1 m2:Seg) (p:Nat→Int→Bool) (fi:FuncId) (aw:List Value) (w:World) (hG:GN (Fr w [m1,m2]) w n A l Ab bs Ac R) (hO:OvRo (Fr w [m1,m2]) w Ao O) (hF:OvFit l (bG R) bs.length ep (gJ O)) (b2:TblR n (([]:List Arc).map (trn false)) X m1) (ct:TblR n (([]:List Arc).map (trn true)) U m2)
    (cf:∀ args w,(callFunc fi args).run Tryz.prog w= .ok (.enter fi args) w) (ce:∀ w',(∀ k,Fr w [m1,m2] k→w'.heap[k]? =w.heap[k]?)→∀ k v:Nat,k<bs.length→v<n→Meets Tryz.prog fi ([.int .i64 ((k:Int)+1),.int .i64 (v:Int)]++aw) w' [] (fun u m=>u= .bool (p k (v:Int))∧m=[])) (hw:Owns w [m1,m2]):
    Meets Tryz.prog 48 [.agg #[.map (some X),.map (some U)],.agg #[.int .i64 (n:Int),.slice A l.length cap],.agg #[.slice Ab bs.length cb,.slice Ac R.length cc],.slice Ao O.length co,.func (.func fi) #[] aw.toArray] w [m1,m2] (fun u own' =>∃ m1' m2',u= .int .i64 0∧own' =[m1',m2']∧TblR n ((cqK l (bG R) p (gJ O) bs.length).map (trn false)) X m1'∧TblR n ((cqK l (bG R) p (gJ O) bs.length).map (trn true)) U m2'):=by
 have cz:=hG
 obtain ⟨hr,hok,hn,ad⟩:=cz
 obtain ⟨c2,c3,hlen,bW⟩:=bS ad.g
 have hl:l.length≤9223372036854775807:=aA
 have hN:I64 (n:Int):=by constructor<;>omega
 have b3:=ad.len
 rw [d5] at b3;have cw:=ad.many
 have bf:=hF.len
 rw [jV] at bf;have hsm:=hF.small ad hlen
 refine bE Tryz.func48 rfl Tryz.ntmps48 rfl hw<|aG fun kh1=>f_S (cT rfl rfl fun b5=>?_)
 refine f_S (cT rfl rfl fun b6=>?_);refine f_S (cT rfl rfl fun b7=>?_);refine aB 1 rfl<|aD kh1<|aS fun kh2=>aG fun ck=>aB 1 rfl<|dU sl53 rfl<|aB 1 rfl<|aD ck<|aR ?_
 refine dA (α:=Nat×Seg×Seg) [4,5,6,7,20,21] (fun ⟨k,m1',m2'⟩=>[(22,.int .i64 (k:Int))]) (fun ⟨k,m1',m2'⟩=>[m1',m2',[(b5,blk [.map (some X),.map (some U)] 105)],[(b6,blk [.int .i64 (n:Int),.slice A l.length cap] 24)],[(b7,blk [.slice Ab bs.length cb,.slice Ac R.length cc] 34)]]) (fun ⟨k,m1',m2'⟩=>k≤O.length∧TblR n ((cqK l (bG R) p (gJ O) k).map (trn false)) X m1'∧TblR n ((cqK l (bG R) p (gJ O) k).map (trn true)) U m2') (fun ⟨k,m1',m2'⟩=>O.length - k) (0,m1,m2) ?_ ?_ ?_ ?_
 ·exact aF
 ·exact aC
 ·exact ⟨Nat.zero_le _,b2,ct⟩
 ·rintro ⟨k,m1',m2'⟩ ⟨cI,F,J⟩;refine aG fun kh4=>aB 1 rfl<|aD kh4<|aS fun kh5=>aX rfl (fun bC=>?_) (fun bC=>?_)
  ·have ab:k<O.length:=aA
   have hk:k<bs.length:=aA
   have Y:k<R.length:=aA
   have bg:=hO.mats _ (List.getElem_mem ab)
   obtain ⟨bo,oo,rfl,b1,bM⟩:=hO.o (fX ab)
   have a1:=(hO.rows _ (List.getElem_mem ab)).1
   obtain ⟨r,ag⟩:∃ r,O[k]=r:=⟨_,rfl⟩
   rw [ag] at a1;obtain ⟨Ar,row,cr⟩:=r
   dsimp only at a1;rw [ag] at bg;dsimp only at bg;have bc:=hF.row k hk
   have ar:=(hsm k (by rw [jV];exact ab)).2
   rw [lZ ab,ag] at bc ar;dsimp only at bc ar;have cg:=many_pos ad hk
   have cY:=cqK_len (l:=l) (Ls:=bG R) (p:=p) hsm (k:=k) (by rw [jV];omega)
   have aq:=cqK_next l (bG R) p (gJ O) k
   rw [lZ ab,ag] at aq;dsimp only at aq;obtain ⟨Z,aa⟩:∃ L,(bG R).getD k []=L:=⟨_,rfl⟩
   have ci:=ad.rowlen (k:=k) hk
   have bj:=iF Y
   rw [aa] at ci bj bc cg;have ay : (R[k]'Y).2.1 = Z := bj.symm
   obtain ⟨b0,o0,cp,b4,cu⟩:=hn.c (fX Y)
   obtain ⟨be, bi, ax, cC, cD⟩ := (hn.rows _ (List.getElem_mem Y)).1 (fun e => by have := a7 (R[k]'Y).2.1; rw [e, ay] at this; simp at this; omega)
   refine bV kh5<|aS fun kh6=>aR<|aG fun kh7=>aB 1 rfl<|f_Q (aL sl53 rfl rfl (oo+k))<|f_Q (aH Tryz.isAgg141 rfl (show Rd _ _ _ _ _ (.slice Ar row.length cr) from (show Rd _ _ _ _ _ (mrV (Ar,row,cr)) by rw [← ag];exact d3 (enc:=mrV) b1 bM ab))) ?_
   refine aB 2 rfl<|aD kh7<|aG fun kh8=>aB 1 rfl<|dU sl141 rfl<|aB 1 rfl<|aD kh8<|aR ?_
   refine dA (α:=Nat×Seg×Seg) [4,5,6,7,11,20,21,22,27,28] (fun ⟨c,m1',m2'⟩=>[(29,.int .i64 (c:Int))]) (fun ⟨c,m1',m2'⟩=>[m1',m2',[(b5,blk [.map (some X),.map (some U)] 105)],[(b6,blk [.int .i64 (n:Int),.slice A l.length cap] 24)],[(b7,blk [.slice Ab bs.length cb,.slice Ac R.length cc] 34)]]) (fun ⟨c,m1',m2'⟩=>c≤row.length∧TblR n ((cqK l (bG R) p (gJ O) k++cqC l Z (p k) row c).map (trn false)) X m1'∧TblR n ((cqK l (bG R) p (gJ O) k++cqC l Z (p k) row c).map (trn true)) U m2') (fun ⟨c,m1',m2'⟩=>row.length - c) (0,m1',m2') ?_ ?_ ?_ ?_
   ·exact aF
   ·exact aC
   ·exact ⟨Nat.zero_le _,by rw [show cqC l Z (p k) row 0=[] from rfl,List.append_nil];exact F,by rw [show cqC l Z (p k) row 0=[] from rfl,List.append_nil];exact J⟩
   ·rintro ⟨c,m1',m2'⟩ ⟨cH,F,J⟩;refine fF (e:=[(29,_),(4,_),(5,_),(6,_),(7,_),(11,_),(20,_),(21,_),(22,_),(27,_),(28,_)]) aF ?_;refine aG fun kh9=>aB 1 rfl<|aD kh9<|aS fun kh10=>aX rfl (fun cd=>?_) (fun cd=>?_)
    ·have ah:c<row.length:=aA
     have ba:=bg _ (List.getElem_mem ah)
     have bk:=ar _ (List.getElem_mem ah)
     have ac:=cqC_next (l:=l) (L:=Z) (p:=p k) ah
     have cM:=cqC_len (l:=l) (L:=Z) (p:=p k) ar (c:=c) aA
     obtain ⟨br,or,rfl,bw,cj⟩:=a1 (eX gQ i9 aA ah)
     obtain ⟨x,hx⟩:∃ x,row[c]=x:=⟨_,rfl⟩
     obtain ⟨ao,au,ap,xA,xD,ae⟩:=x
     rw [hx] at ba ac bk;dsimp only at ba ac bk;have ai:=hF.at_ k c ⟨ao,au,ap,xA,xD,ae⟩ hk (by rw [lZ ab,ag];dsimp only;rw [List.getElem?_eq_getElem ah,hx])
     rw [aa] at ai;dsimp only at ai;obtain ⟨cR,cW,⟨c4,cK⟩,bu⟩:=ai
     have bp:=cl_in ad (c:=c) hk (by rw [aa];omega)
     obtain ⟨v0,bh,cP,_⟩:=fstI_in (L:=Z) (c:=(c:Int)) (by rw [← aa];exact cell_in ad hk (by rw [aa];omega))
     refine bV kh10<|aS fun kh11=>aR<|aG fun kh12=>aB 1 rfl<|f_Q (aL sl141 rfl rfl (or+c*4))<|f_Q (aO (vs:=[.int .i64 ao,.int .i64 au,.int .i64 ap,.slice xA xD.length ae]) Tryz.isAgg138 Tryz.sizeOf138 rfl rfl (show Rds _ _ _ _ _ (gQ ⟨ao,au,ap,xA,xD,ae⟩) by rw [← hx];exact f8 i9 bw cj ah)) ?_
     refine f_S (cQ Tryz.zeroValue138 rfl fun c0=>?_);refine aB 1 rfl<|f_Z (bP Tryz.sizeOf138 rfl rfl rfl rfl cF [.int .i64 ao,.int .i64 au,.int .i64 ap,.slice xA xD.length ae] rfl ?_)
     refine aD kh12<|aG fun kh13=>cL jD rfl<|f_Q (aH Tryz.isAgg32 rfl (v:= .slice (some ⟨b0,o0,none⟩) R.length cc) (rdA (by rw [← cp];rfl))) ?_
     refine aB 1 rfl <| f_Q (aL gL rfl rfl (o0 + k)) <| f_Q (aH Tryz.isAgg25 rfl (v := .slice (some ⟨be, bi, none⟩) Z.length (R[k]'Y).2.2) (show Rd _ _ _ _ _ (Value.slice (some ⟨be, bi, none⟩) Z.length (R[k]'Y).2.2) by rw [← ax, ← ay]; exact d3 (enc := fG) b4 cu Y)) ?_
     refine aB 1 rfl ?_;refine f_S (aV Tryz.call78 rfl (fun w_ hp_ => Index_spec (some ⟨be, bi, none⟩) Z (R[k]'Y).2.2 (c : Int) w_ (by have h := (hn.up0 hp_).rows _ (List.getElem_mem Y); rw [ax, ay] at h; exact h.1) aA) ?_);rintro _ _ ⟨rfl, rfl⟩;rw [bh];dsimp only [aK, aJ];refine aB 1 rfl <| aD kh13 <| aS fun kh14 => aG fun kh15 => aB 2 rfl <| f_Q (a8 rfl rfl) <| aB 1 rfl ?_
     refine f_S (jG [] _ cf rfl rfl Sub.refl (fun w_ hp_=>(by have h:=ce w_ (fun k hk=>hp_.same k hk) k v0 hk aA;exact h)) ?_);rintro _ _ ⟨rfl,rfl⟩;dsimp only [aK,aJ];refine aB 1 rfl<|aD kh15<|eO rfl (fun c46=>?_) (fun c46=>?_)
     ·have b9:p k (fstI Z (c:Int))=false:=by rw [bh];simpa using c46
      rw [b9,if_neg (by decide),List.append_nil] at ac;refine cN<|cO<|eC<|bO kh11<|aI<|f_Q (a8 rfl rfl)<|aB 1 rfl<|aZ ?_
      refine cS (a6 (c+1,m1',m2') (by first|omega|(dsimp only;omega)|(simp;omega)) ⟨aA,by rw [ac];exact F,by rw [ac];exact J⟩ ?_ ?_ ?_)
      ·exact aF
      ·exact aF
      ·exact aC
     ·have bL:p k (fstI Z (c:Int))=true:=by rw [bh];simpa using c46
      rw [bL,if_pos rfl] at ac;refine bV kh14<|aG fun kh16=>f_Q (aO (vs:=[_,_]) Tryz.isAgg24 Tryz.sizeOf24 rfl rfl ⟨(rdA rfl),(rdA rfl),trivial⟩)<|f_Q (aO (vs:=[_,_]) Tryz.isAgg34 Tryz.sizeOf34 rfl rfl ⟨(rdA rfl),(rdA rfl),trivial⟩)<|aB 1 rfl<|f_Q (a8 rfl rfl)<|aB 1 rfl ?_
      refine f_S (aV Tryz.call9 rfl (fun w_ hp_=>jS (n:Int) A l cap Ab bs cb Ac R cc ((k:Int)+1) (c:Int) w_ (hr.up0 hp_) hl hN hok (hn.up0 hp_)) ?_);rintro _ _ ⟨B',AB,cB,mB,rfl,rfl,cv,_,bY⟩;have av:B' =bdL Z (c:Int) l:=by rw [bY bp,show (((k:Int)+1).toNat - 1)=k by omega,aa]
      rw [bp];have bK:xD.length=B'.length*B'.length:=by rw [av];exact bu
      have aj:=fun (v:Int) (h:v∈bdL Z (c:Int) l)=>oL (n:=n) bW h
      rw [← av] at aj;dsimp only [aK,aJ];refine aB 5 rfl<|aD kh16<|aS fun kh17=>aG fun kh18=>aB 2 rfl<|aD kh18<|dX rfl aN<|bV kh17<|aG fun kh19=>cL k4 rfl ?_
      refine cX Tryz.isAgg41 rfl (rdA rfl)<|dU mS rfl<|aB 1 rfl<|aD kh19<|aR ?_
      refine dA (α:=Nat×Seg×Seg) [4,5,6,7,11,16,20,21,22,27,28,29,60,61] (fun ⟨j,m1',m2'⟩=>[(62,.int .i64 (j:Int))]) (fun ⟨j,m1',m2'⟩=>[m1',m2',mB,[(b5,blk [.map (some X),.map (some U)] 105)],[(b6,blk [.int .i64 (n:Int),.slice A l.length cap] 24)],[(b7,blk [.slice Ab bs.length cb,.slice Ac R.length cc] 34)]]) (fun ⟨j,m1',m2'⟩=>j≤xD.length∧TblR n ((cqK l (bG R) p (gJ O) k++cqC l Z (p k) row c++mxE B' xD j).map (trn false)) X m1'∧TblR n ((cqK l (bG R) p (gJ O) k++cqC l Z (p k) row c++mxE B' xD j).map (trn true)) U m2') (fun ⟨j,m1',m2'⟩=>xD.length - j) (0,m1',m2') ?_ ?_ ?_ ?_
      ·exact aF
      ·exact aC
      ·exact ⟨Nat.zero_le _,by rw [show mxE B' xD 0=[] from rfl,List.append_nil];exact F,by rw [show mxE B' xD 0=[] from rfl,List.append_nil];exact J⟩
      ·rintro ⟨j,m1',m2'⟩ ⟨c1,F,J⟩;refine fF (e:=[(62,_),(4,_),(5,_),(6,_),(7,_),(11,_),(16,_),(20,_),(21,_),(22,_),(27,_),(28,_),(29,_),(60,_),(61,_)]) aF ?_;refine aG fun kh20=>aB 1 rfl<|aD kh20<|aS fun kh21=>aX rfl (fun b8=>?_) (fun b8=>?_)
       ·have hj:j<xD.length:=aA
        obtain ⟨ak,an,_⟩:=sq_div (bK▸hj)
        have cy:=Nat.div_le_self j B'.length
        obtain ⟨jq,a2⟩:∃ q,j / B'.length=q:=⟨_,rfl⟩
        obtain ⟨jr,az⟩:∃ q,j % B'.length=q:=⟨_,rfl⟩
        rw [a2] at ak cy;rw [az] at an;obtain ⟨bD,oD,rfl,bv,bR⟩:=ba (fun e=>by have:=iE xD;rw [e] at this;simp at this;omega)
        obtain ⟨u,hu,cn⟩:∃ v:Nat,B'[jq]=(v:Int)∧v<n:=⟨B'[jq].toNat,by have:=aj _ (List.getElem_mem ak);omega,by have:=aj _ (List.getElem_mem ak);omega⟩
        obtain ⟨v,hv,cq⟩:∃ u:Nat,B'[jr]=(u:Int)∧u<n:=⟨B'[jr].toNat,by have:=aj _ (List.getElem_mem an);omega,by have:=aj _ (List.getElem_mem an);omega⟩
        obtain ⟨bB,cm,rfl,rfl⟩:=cv.at_ aA
        have cJ:=mxE_len B' xD j
        refine bV kh21<|aS fun kh22=>aR<|aG fun kh23=>aB 1 rfl<|f_Q (aL mS rfl rfl (oD+j))<|f_Q (aH Tryz.isAgg46 rfl (show Rd _ _ _ _ _ (.int .u64 (dg xD j)) by rw [dg_eq hj];exact d3 (enc:=(.int .u64 ·)) bv bR hj)) ?_
        refine aB 2 rfl<|aD kh23<|c7 [[(b5,blk [.map (some X),.map (some U)] 105)],[(bB,blk (bF B' ++cm) 3)]] rfl<|f_T 0 rfl (aO (vs:=[_,_]) Tryz.isAgg105 Tryz.sizeOf105 rfl rfl ⟨(rdA rfl),(rdA rfl),trivial⟩)<|f_T 1 rfl (aU rfl)<|f_T 2 rfl (aU rfl)<|f_T 3 rfl (aU rfl)<|f_T 4 rfl (iH bX rfl)<|f_T 5 rfl (o_quo rfl rfl aA ((jq:Nat):Int) (by rw [tdiv_nat,a2];exact wrap_q aA)) ?_
        refine f_T 6 rfl (aL bX rfl rfl (jq))<|f_T 7 rfl (aH Tryz.isAgg3 rfl (rdA (v:= .int .i64 (u:Int)) (eF (by rw [eG ak,hu])))) ?_
        refine f_T 8 rfl (aU rfl)<|f_T 9 rfl (aU rfl)<|f_T 10 rfl (aU rfl)<|f_T 11 rfl (iH bX rfl)<|f_T 12 rfl (o_rem rfl rfl aA ((jr:Nat):Int) (by rw [tmod_nat,az])) ?_
        refine f_T 13 rfl (aL bX rfl rfl (jr))<|f_T 14 rfl (aH Tryz.isAgg3 rfl (rdA (v:= .int .i64 (v:Int)) (eF (by rw [eG an,hv])))) ?_
        refine f_T 15 rfl (aU rfl) ?_;refine f_O 16 rfl (d4 [m1',m2'] _ Tryz.call51 rfl (by repeat (first|exact Sub.refl|refine aM ?_)) (fun w_ hp_=>put_spec n (cqK l (bG R) p (gJ O) k++cqC l Z (p k) row c++mxE B' xD j) X U m1' m2' u v (dg xD j) w_ F J cn cq (by rw [List.length_append,List.length_append];omega) hp_.owns) ?_);rintro _ _ ⟨bq,bt,rfl,rfl,al,am⟩;rw [putE_mx (q:=jq) (r:=jr) a2 az (by rw [eM ak,hu]) (by rw [eM an,hv])] at al am;dsimp only [aK,aJ];refine ⟨aC,?_⟩;refine cU aW<|dF<|bO kh22<|aI<|f_Q (a8 rfl rfl)<|aB 1 rfl<|aZ ?_
        refine cS (a6 (j+1,bq,bt) (by first|omega|(dsimp only;omega)|(simp;omega)) ⟨aA,al,am⟩ ?_ ?_ ?_)
        ·exact aF
        ·exact aF
        ·exact aC
       ·obtain rfl:j=xD.length:=aA
        refine cN<|cO<|cO<|eC<|dF<|bO kh11<|aI<|f_Q (a8 rfl rfl)<|aB 1 rfl<|aZ ?_
        refine cS (a6 (c+1,m1',m2') (by first|omega|(dsimp only;omega)|(simp;omega)) ⟨aA,by rw [ac,← av,← List.append_assoc];exact F,by rw [ac,← av,← List.append_assoc];exact J⟩ ?_ ?_ ?_)
        ·exact aF
        ·exact aF
        ·exact aC
    ·obtain rfl:c=row.length:=aA
     refine cN<|cO<|cO<|eC<|dF<|bO kh6<|aI<|f_Q (a8 rfl rfl)<|aB 1 rfl<|aZ ?_
     refine cS (a6 (k+1,m1',m2') (by first|omega|(dsimp only;omega)|(simp;omega)) ⟨aA,by rw [aq,aa];exact F,by rw [aq,aa];exact J⟩ ?_ ?_ ?_)
     ·exact aF
     ·exact aF
     ·exact aC
  ·obtain rfl:k=O.length:=aA
   refine cN<|cO<|cO<|eC<|bO kh2<|aG fun kh24=>aB 1 rfl<|aD kh24<|aY ?_
   exact bJ [m1',m2'] Tryz.results48 rfl aC ⟨m1',m2',rfl,rfl,by rw [← bf];exact F,by rw [← bf];exact J⟩
end Go.Proofs.YthpkelafioikaaaGreat
