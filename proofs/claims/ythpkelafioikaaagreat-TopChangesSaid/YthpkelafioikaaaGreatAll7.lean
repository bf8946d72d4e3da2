import Derived.Test.YthpkelafioikaaaGreatFlyRun
import Derived.Test.YthpkelafioikaaaGreatAll6
import Derived.Test.YthpkelafioikaaaGreatAll4
import Derived.Test.YthpkelafioikaaaGreatFlyOps3
namespace Go.Proofs.YthpkelafioikaaaGreat
open Go Go.RowKit Fly
set_option maxRecDepth 100000
set_option maxHeartbeats 4000000
set_option linter.all false
theorem cl_zero {n:Nat} {l:List Arc} {bs:List Int} {L:List (List Int)} (h:NestOk n l bs L) {k v:Nat} (hk:k<bs.length) (hv:v<n) {q:Int} (hq:q=(k:Int)+1):clE (n:Int) l bs L q ((L.getD k []).getD v 0)=0:=by
 subst hq;have h1:lkE (n:Int) l bs L ((k:Int)+1)=0:=by unfold lkE;rw [if_neg (by rw [h.zero];simp),if_neg aA]
 have hl:=h.rowlen hk
 have hm:(L.getD k []).getD v 0∈L.getD k []:=by rw [eM aA];exact List.getElem_mem _
 have h2:=e5 (h.right hk) h.n1.1 _ hm
 have h3:=iI hm
 unfold clE
 rw [if_neg (by rw [h1];simp),show (((k:Int)+1).toNat - 1)=k by omega,if_neg aA]
theorem bw_zero {n:Nat} {l:List Arc} {bs:List Int} {L:List (List Int)} {q c:Int} (hc:clE (n:Int) l bs L q c=0) (hq:q≠1):bwE (n:Int) l bs L q c=0∧chE (n:Int) l bs L q c=0:=by
 unfold bwE chE
 rw [if_neg (by rw [hc];simp),if_neg hq];exact ⟨rfl,rfl⟩
theorem ch_kids {n F:Nat} {L:List (List Int)} {q c:Int} (hq:q=(F:Int)+2) (hl:(L.getD (F+1) []).length=n):Kids n (L.getD F []) (L.getD (F+1) []) c (chL L q c):=by
 subst hq;have e1:(((F:Int)+2).toNat - 2)=F:=aA
 have e2:(((F:Int)+2).toNat - 1)=F+1:=aA
 have key:∀ x,x∈chL L ((F:Int)+2) c↔∃ v:Nat,v<n∧(L.getD (F+1) []).getD v 0=c∧(L.getD F []).getD v 0=x:=fun x=>by
  unfold chL
  rw [e1,e2,oH,(p8 _).mem_iff,hl]
  unfold lowL
  rw [List.mem_map];constructor
  ·rintro ⟨y,hy,rfl⟩
   obtain ⟨v,rfl,h1,h2⟩:=memTo_mem.1 hy
   exact ⟨v,h1,h2,by rw [Int.toNat_natCast]⟩
  ·rintro ⟨v,h1,h2,rfl⟩
   exact ⟨(v:Int),memTo_mem.2 ⟨v,rfl,h1,h2⟩,by rw [Int.toNat_natCast]⟩
 exact ⟨fun v h1 h2=>(key _).2 ⟨v,h1,h2,rfl⟩,fun x hx=>(key x).1 hx⟩
structure KidM (S:Nat→Prop) (w:World) (l:List Arc) (Lb:List Int) (qb ep:Int) (kids:List Int) (Ms:List Mx):Prop where
 len:Ms.length=kids.length
 lv:∀ i (h:i<Ms.length),Ms[i].lv=qb∧0≤Ms[i].ep∧Ms[i].ep≤ep
 cl:∀ i (h:i<Ms.length) (h' :i<kids.length),Ms[i].cl=kids[i]
 mat:∀ i (h:i<Ms.length),MatOk l Lb Ms[i].cl Ms[i].D
 ro:∀ i (h:i<Ms.length),Ro S w Ms[i].A (fH Ms[i].D)
def kE (Lb:List Int) (l:List Arc) (Ms:List Mx):List Arc:=Ms.flatMap fun m=>mxE (bdL Lb m.cl l) m.D m.D.length
theorem kE_next {Lb:List Int} {l:List Arc} {Ms:List Mx} {i:Nat} (hi:i<Ms.length):kE Lb l (Ms.take (i+1))=kE Lb l (Ms.take i)++mxE (bdL Lb Ms[i].cl l) Ms[i].D Ms[i].D.length:=by
 unfold kE;rw [List.take_succ_eq_append_getElem hi,List.flatMap_append];simp
theorem mxE_len (B D:List Int):∀ k,(mxE B D k).length≤k
 |0=>by simp [mxE]
 |k+1=>by
  have:=mxE_len B D k
  rw [mxE_next,List.length_append]
  unfold mxA
  split<;>simp<;>omega
theorem kE_len {Lb:List Int} {l:List Arc}:∀ {Ms:List Mx},(∀ m∈Ms,m.D.length≤268435456)→(kE Lb l Ms).length≤Ms.length*268435456
 |[],_=>by simp [kE]
 |m::Ms,h=>by
  have h1:=kE_len (Lb:=Lb) (l:=l) (Ms:=Ms) fun x hx=>h x (List.mem_cons_of_mem _ hx)
  have h2:=mxE_len (bdL Lb m.cl l) m.D m.D.length
  have h3:=h m List.mem_cons_self
  unfold kE at*
  rw [List.flatMap_cons,List.length_append,List.length_cons];omega
def aE (l:List Arc) (arcs:List Int):List Arc:=arcs.map fun i=>l[i.toNat]?.getD ⟨0,0,0⟩
theorem aE_next {l:List Arc} {arcs:List Int} {k i:Nat} (hk:k<arcs.length) (hi:i<l.length) (e:arcs[k]=(i:Int)):aE l (arcs.take (k+1))=aE l (arcs.take k)++[l[i]]:=by
 unfold aE;rw [List.take_succ_eq_append_getElem hk,List.map_append];simp [e,hi]
theorem aE_len (l:List Arc) (arcs:List Int):(aE l arcs).length=arcs.length:=by simp [aE]
theorem aE_mem {l:List Arc} {p:Arc→Bool} {a:Arc}:a∈aE l (gF p l)↔a∈l∧p a=true:=by
 unfold aE
 rw [List.mem_map];constructor
 ·rintro ⟨x,hx,rfl⟩
  obtain ⟨i,hi,rfl,hp⟩:=idxs_mem hx
  rw [Int.toNat_natCast,List.getElem?_eq_getElem hi,Option.getD_some];exact ⟨List.getElem_mem _,hp⟩
 ·rintro ⟨h1,h2⟩
  obtain ⟨i,hi,rfl⟩:=List.mem_iff_getElem.1 h1
  refine ⟨(i:Int),?_,by rw [Int.toNat_natCast,List.getElem?_eq_getElem hi,Option.getD_some]⟩;have:=(idxs_in (p:=p) l.length (Nat.le_refl _) (i:Int)).2 ⟨i,hi,hi,rfl,h2⟩
  rwa [List.take_length] at this
theorem MatOk.lk {n:Nat} {l:List Arc} {L:List Int} {c:Int} {D:List Int} (hg:∀ k (hk:k<l.length),0≤l[k].src∧l[k].src<(n:Int)∧0≤l[k].dst∧l[k].dst<(n:Int)) (hw:∀ x∈l,0≤x.wt) (h:MatOk l L c D) {a:Arc} (ha:a∈mxE (bdL L c l) D D.length):(0≤a.src∧a.src<(n:Int))∧(0≤a.dst∧a.dst<(n:Int))∧0≤a.wt∧a.wt≤INF:=by
 obtain ⟨h1,h2,h3,F⟩:=h.arc ha
 exact ⟨oL hg h1,oL hg h2,F.nonneg hw,Int.le_of_lt h3⟩
theorem up_e {S:Nat→Prop} {w:World} {l:List Arc} {Lb L:List Int} {c J ep:Int} {kids:List Int} {Ms:List Mx} (h:KidM S w l Lb J ep kids Ms):UpE l Lb L c kids (kE Lb l Ms++aE l (gF (btP L Lb c) l)) where
 src a ha:=by
  rcases List.mem_append.1 ha with ha|ha
  ·left
   unfold kE at ha
   obtain ⟨m,hm,ha⟩:=List.mem_flatMap.1 ha
   obtain ⟨i,hi,rfl⟩:=List.mem_iff_getElem.1 hm
   have hl:=h.len
   have hc:=h.cl i hi aA
   have F:=h.mat i hi
   refine ⟨kids[i]'aA, List.getElem_mem _, ?_⟩;rw [← hc]; exact F.arc ha
  ·exact .inr (aE_mem.1 ha)
 mat k hk x y m hx hy hw hlt:=by
  obtain ⟨i,hi,rfl⟩:=List.mem_iff_getElem.1 hk
  have hl:=h.len
  have hc:=h.cl i aA hi
  have F:=h.mat i aA
  rw [← hc] at hx hy hw;obtain ⟨a,ha,h1⟩:=F.over hx hy hw hlt
  exact ⟨a,List.mem_append_left _ (by unfold kE;exact List.mem_flatMap.2 ⟨_,List.getElem_mem _,ha⟩),h1⟩
 btw a ha hb:=List.mem_append_right _ (aE_mem.2 ⟨ha,hb⟩)
theorem tc_none {T:List (Option Int)} (h:¬ (kC T:Int)>0):topR T=none:=topR_none aA
theorem tc_some {T:List (Option Int)} (h:(kC T:Int)>0):∃ v a,topR T=some (v,a):=by
 cases e:topR T with
 |none=>have:=jT e;omega
 |some q=>exact ⟨q.1,q.2,rfl⟩
theorem spread_spec (n:Nat) (bw:1≤n∧n≤1024) (E:List Arc) (hE:LkOk n E) (bq:E.length≤281474976710656) (ents:List (Int×Value×Nat)) (c1 Z:Nat) (vs:List Value) (ms:List Seg) (hL:LinkR 260 n E ents vs ms) (s:Nat) (hs:s<n) (w:World) (hw:Owns w [[(Z,e7 iM ents c1)],ms.flatten]):
    Meets Tryz.prog 160 [.int .i64 (n:Int),.map (some Z),.int .i64 (s:Int)] w [[(Z,e7 iM ents c1)],ms.flatten] (fun u own' =>∃ D bd,u= .slice (some ⟨bd,0,none⟩) n n∧own' =[[(Z,e7 iM ents c1)],ms.flatten,[(bd,blk (fH D) 46)]]∧IsD n E i4 s D):=by
 have al:=hE.wt
 have ak:=hE.dst
 refine bE Tryz.func160 rfl Tryz.ntmps160 rfl hw<|aG fun kh1=>aB 1 rfl<|aD kh1<|aG fun kh2=>f_S (bQ q6 aA rfl rfl rfl fun ac=>?_)
 refine aB 1 rfl ?_;refine f_S (aV Tryz.call26 rfl (fun w_ hp_=>i2 ac 0 1 n 18446744073709551615 w_ (fP (b:=ac) hp_ (cs:=[.int .u64 18446744073709551615]) (fun j v hj=>hj)) aA) ?_);rintro _ _ ⟨bd,rfl,rfl⟩;dsimp only [aK,aJ];refine aB 1 rfl<|aD kh2<|aG fun kh3=>aB 1 rfl ?_
 refine f_S (aV Tryz.call64 rfl (fun w_ hp_=>New_spec (n:Int) w_) ?_);rintro _ _ hN;rw [NewΦ,if_neg aA,Int.toNat_natCast] at hN;obtain ⟨bH,au,rfl,rfl,ba⟩:=hN
 dsimp only [aK,aJ];refine aB 5 rfl<|aD kh3<|aG fun kh4=>aB 2 rfl<|f_Q (aL mS rfl rfl (s))<|f_Z (bU Tryz.sizeOf46 rfl rfl rfl rfl (by rw [List.length_replicate];omega) (fH (D0 n s)) (by rw [u64s_rep];exact oY _ _ _) ?_)
 refine aD kh4<|aG fun kh5=>aB 2 rfl ?_
 refine f_S (d4 [au] _ Tryz.call65 rfl (aM Sub.refl) (fun w_ hp_=>lL (List.replicate n none) bH au (s:Int) 0 w_ ba hp_.owns) ?_);rintro _ _ ⟨rfl,hm2,rfl,ah⟩;rw [looks_new hs] at ah;dsimp only [aK,aJ];refine aD kh5<|aS fun kh6=>aR ?_
 refine dA (α:=List Int×List Int×List (Option Int)×List Nat×Seg) [1,7,8] (fun ⟨d,by_,T,o,hm⟩=>[]) (fun ⟨d,by_,T,o,hm⟩=>[[(Z,e7 iM ents c1)],ms.flatten,[(bd,blk (fH d) 46)],hm]) (fun ⟨d,by_,T,o,hm⟩=>SS n E every s d by_ T o (RF E o)∧HRep T bH hm) (fun ⟨d,by_,T,o,hm⟩=>free n o) (D0 n s,B0 n,T0 n s,[],hm2) ?_ ?_ ?_ ?_
 ·exact aF
 ·exact aC
 ·exact ⟨SS_begin hs,ah⟩
 ·rintro ⟨d,by_,T,o,hm⟩ ⟨ax,hH⟩;refine aS fun bc=>aG fun kh8=>aB 1 rfl ?_;refine f_S (d4 [hm] _ Tryz.call175 rfl (by repeat (first|exact Sub.refl|refine aM ?_)) (fun w_ hp_=>Len_spec T bH hm w_ hH hp_.owns) ?_);rintro _ _ ⟨rfl,rfl⟩;dsimp only [aK,aJ];refine aB 1 rfl<|aD kh8<|aX rfl (fun c32=>?_) (fun c32=>?_)
  ·obtain ⟨v,a,ht⟩:=tc_some (T:=T) (by simpa using c32)
   obtain ⟨ae,aw,bi,bk,hai,ay⟩:=NX.start ax ht
   have aa:=pS aw bi
   refine bV bc<|aR<|aG fun kh9=>aB 1 rfl ?_
   refine f_S (d4 [hm] _ Tryz.call67 rfl (by repeat (first|exact Sub.refl|refine aM ?_)) (fun w_ hp_=>HPop_spec T bH hm w_ hH hp_.owns) ?_);rintro _ _ ⟨rfl,a2,rfl,ap⟩;rw [lB ht];rw [popT_some ht] at ap;dsimp only [aK,aJ];refine aB 7 rfl<|aD kh9<|aS fun kh10=>?_
   obtain ⟨val,rm,rG,ao,aj,am,_⟩:=hL.split aw
   have bp:=outs_len E v
   have bj:(fB E v).length≤E.length:=by unfold fB;rw [l7];exact List.countP_le_length
   obtain ⟨Ar,cr,rfl,bv⟩:=aj.val
   refine eP (Sub.splitF am)<|aI<|aB 2 rfl<|f_Q (fD kt257 Tryz.zeroValue258 rfl rfl rfl _ ao)<|dU sl258 rfl<|aB 1 rfl<|aD kh10<|aR ?_
   refine dA (α:=Nat×List Int×List Int×List (Option Int)×Seg) [1,7,8,11,41,42] (fun ⟨j,U,J,X,F⟩=>[(43,.int .i64 (j:Int))]) (fun ⟨j,U,J,X,F⟩=>[[(bd,blk (fH U) 46)],F,[(Z,e7 iM ents c1)],rm,rG]) (fun ⟨j,U,J,X,F⟩=>j≤(g4 E v).length∧NX n E every s d v a o j U J X∧HRep X bH F) (fun ⟨j,U,J,X,F⟩=>(g4 E v).length - j) (0,d,by_,T.set v none,a2) ?_ ?_ ?_ ?_
   ·exact aF
   ·exact aC
   ·exact ⟨Nat.zero_le _,ae,ap⟩
   ·rintro ⟨j,U,J,X,F⟩ ⟨bu,O,ab⟩;refine fF (e:=[(43,_),(1,_),(7,_),(8,_),(11,_),(41,_),(42,_)]) aF ?_;refine aG fun kh11=>aB 1 rfl<|aD kh11<|aS fun kh12=>aX rfl (fun bg=>?_) (fun bg=>?_)
    ·have hj:j<(g4 E v).length:=aA
     obtain ⟨i,hi,ad,ai,Y,az⟩:=outs_at hj
     have bf:=hE _ (List.getElem_mem hi)
     obtain ⟨u,hu,av⟩:∃ u:Nat,E[i].dst=(u:Int)∧u<n:=⟨E[i].dst.toNat,aA,aA⟩
     have hud:E[i].dst.toNat=u:=aA
     obtain ⟨br,bB,rfl,rfl⟩:=aj.at_ aA
     refine bV kh12<|aS fun kh13=>aR<|aG fun kh14=>f_Q (aL sl258 rfl rfl (j*2))<|f_Q (aO (vs:=lkCs E[i]) Tryz.isAgg260 Tryz.sizeOf260 rfl rfl (by rw [← az];exact jL lkCs_len hj)) ?_
     refine f_S (cQ Tryz.zeroValue260 rfl fun bt=>?_);refine f_Z (bP Tryz.sizeOf260 rfl rfl rfl rfl cF (lkCs E[i]) rfl ?_);refine aD kh14<|aG fun kh15=>aB 1 rfl<|cL fa260_1 rfl<|cX Tryz.isAgg46 rfl (rdA rfl) ?_
     refine f_S (aV Tryz.call31 rfl (fun w_ hp_=>p4 a E[i].wt w_ ⟨ay,Int.le_of_lt hai⟩ bf.2.2) ?_);rintro _ _ ⟨rfl,rfl⟩;dsimp only [aK,aJ];refine aB 1 rfl<|aD kh15<|aG fun kh16=>aB 2 rfl<|cL fa260_0 rfl<|cX Tryz.isAgg3 rfl (rdA rfl)<|f_Q (aL mS rfl rfl (u))<|f_Q (aH Tryz.isAgg46 rfl (rdA (mQ (dg_at (by rw [O.ss.ld];exact av))))) ?_
     refine aB 1 rfl<|aD kh16<|aX rfl (fun c57=>?_) (fun c57=>?_)
     ·have a1:=(O.ss.rng u av).2
      have be:=dadd_lt c57 a1
      obtain ⟨ag,an⟩:=O.relax al ak ad hi ai Y rfl hud (m:=gS a E[i].wt) be c57
      refine aG fun aq=>aB 1 rfl<|cL fa260_0 rfl<|cX Tryz.isAgg3 rfl (rdA rfl)<|aB 1 rfl<|f_Q (aL mS rfl rfl (u))<|f_Z (bU Tryz.sizeOf46 rfl rfl rfl rfl (by rw [iE,O.ss.ld];omega) (fH (U.set u (gS a E[i].wt))) (oY _ _ _) ?_)
      refine aD aq<|aI<|aB 1 rfl<|cL fa260_0 rfl<|cX Tryz.isAgg3 rfl (rdA rfl)<|aB 1 rfl ?_
      refine f_S (d4 [F] _ Tryz.call65 rfl (by repeat (first|exact Sub.refl|refine aM ?_)) (fun w_ hp_=>(by have h:=lL X bH F (u:Int) (gS a E[i].wt) w_ ab hp_.owns;rw [← hu] at h;exact h)) ?_);rintro _ _ ⟨rfl,bh,rfl,ar⟩;rw [hu,an] at ar;dsimp only [aK,aJ];refine aZ<|dF<|bO kh13<|aI<|f_Q (a8 rfl rfl)<|aB 1 rfl<|aZ ?_
      refine cS (a6 (j+1,U.set u (gS a E[i].wt),J.set u (i:Int),X.set u (some (gS a E[i].wt)),bh) (by first|omega|(dsimp only;omega)|(simp;omega)) ⟨aA,ag,ar⟩ ?_ ?_ ?_)
      ·exact aF
      ·exact aF
      ·exact aC
     ·refine dY<|dF<|bO kh13<|aI<|f_Q (a8 rfl rfl)<|aB 1 rfl<|aZ ?_
      refine cS (a6 (j+1,U,J,X,F) (by first|omega|(dsimp only;omega)|(simp;omega)) ⟨aA,O.skipQ ad hi ai Y hud c57,ab⟩ ?_ ?_ ?_)
      ·exact aF
      ·exact aF
      ·exact aC
    ·refine cN<|cO<|cO<|eC<|dF<|f9 (Sub.joinF (m:=rm) (G' :=rG) am.symm) ?_
     refine cS (a6 (U,J,X,v::o,F) aa ⟨O.done aA,ab⟩ ?_ ?_ ?_)
     ·exact aF
     ·exact aF
     ·exact aC
  ·refine cN<|cO<|cO<|eC<|bO kh6<|aG fun kh18=>aB 2 rfl<|aD kh18<|aY ?_
   exact bJ [[(Z,e7 iM ents c1)],ms.flatten,[(bd,blk (fH d) 46)]] Tryz.results160 rfl aC ⟨d,bd,rfl,rfl,ax.done (tc_none (by simpa using c32)) hE.src hE.dst hE.wt⟩
theorem Up_spec (n:Nat) (A:Option Addr) (l:List Arc) (cap:Nat) (Ab:Option Addr) (bs:List Int) (cb:Nat) (Ac:Option Addr) (R:List Row) (cc:Nat) (q c ep:Int) (k1:Nat) (B2:Option Addr) (len dc:Nat) (Bk:Option Addr) (Ms:List Mx) (ck:Nat) (w:World) (hG:GN (Fr w []) w n A l Ab bs Ac R) (hq:q=(k1:Int)+2) (bh:clE (n:Int) l bs (bG R) q c=0) (he:0≤ep∧ep≤1073741824) (b5:Ro (Fr w []) w B2 (w32s (wtL l (gF (btP ((bG R).getD (k1+1) []) ((bG R).getD k1 []) c) l)))) (di:len=(gF (btP ((bG R).getD (k1+1) []) ((bG R).getD k1 []) c) l).length)
    (hK:KidM (Fr w []) w l ((bG R).getD k1 []) (q - 1) ep (chL (bG R) q c) Ms) (c3:Ro (Fr w []) w Bk (Ms.flatMap gQ)):
    Meets Tryz.prog 124 [.agg #[.int .i64 (n:Int),.slice A l.length cap],.agg #[.slice Ab bs.length cb,.slice Ac R.length cc],.int .i64 q,.int .i64 c,.int .i64 ep,.slice B2 len dc,.slice Bk Ms.length ck] w [] (fun u own' =>∃ D A' cap' m',u= .tuple #[.agg (gQ ⟨q,c,ep,A',D,cap'⟩).toArray,.int .i64 0]∧own' =[m']∧Own 46 1 (.slice A' D.length cap') D.length (fH D) m'∧MatOk l ((bG R).getD (k1+1) []) c D):=by
 have eb:=hG
 obtain ⟨hr,hok,hn,aq⟩:=eb
 obtain ⟨ex,e0,hlen,am⟩:=bS aq.g
 have hl:l.length≤9223372036854775807:=aA
 have hN:I64 (n:Int):=by constructor<;>omega
 have db:=aq.len
 rw [d5] at db;have dz:=aq.many
 obtain ⟨n',k,j0,e3,_,em,cP,er,eu⟩:=j7 bh
 obtain rfl:n=n' :=aA
 obtain rfl:k=k1+1:=aA
 obtain ⟨cz,bu⟩:=bw_zero bh aA
 subst di;have cJ:=aq.rowlen (k:=k1+1) cP
 have bC:=aq.rowlen (k:=k1) aA
 have bt:=aq.within cP aA
 rw [show k1+1 - 1=k1 by omega] at bt;have Z:=ch_kids (c:=c) hq cJ
 have bq:∀ x∈l,0≤x.wt:=fun x hx=>(hok x hx).wt.1
 have bv:∀ x∈l,x.wt≤4294967295:=fun x hx=>(hok x hx).wt.2
 have bL:∀ x∈chL (bG R) q c,clE (n:Int) l bs (bG R) (q - 1) x=0:=fun x hx=>by
   obtain ⟨v,h1,_,h2⟩:=Z.has x hx
   rw [← h2];exact cl_zero aq (k:=k1) aA h1 aA
 obtain ⟨kids,cd⟩:∃ kids,chL (bG R) q c=kids:=⟨_,rfl⟩
 have ef:kids.length≤1024:=by
   rw [← cd];unfold chL
   refine Nat.le_trans (kI _) ?_;rw [e6,lowL_len,show q.toNat - 1=k1+1 by omega];refine Nat.le_trans (pL _ _ _) ?_;omega
 rw [cd] at hK Z bL;obtain ⟨Lb,a2⟩:∃ Lb,(bG R).getD k1 []=Lb:=⟨_,rfl⟩
 obtain ⟨L,bf⟩:∃ L,(bG R).getD (k1+1) []=L:=⟨_,rfl⟩
 rw [a2] at hK Z bC bt;rw [bf] at Z cJ bt;rw [a2,bf] at b5 ⊢;have dl:=kX (btP L Lb c) l
 have cI:rD l (gF (btP L Lb c) l):=mV _ _
 have bM:=up_e (L:=L) (c:=c) hK
 obtain ⟨arcs,ha⟩:∃ arcs,gF (btP L Lb c) l=arcs:=⟨_,rfl⟩
 rw [ha] at b5 dl cI bM ⊢;have ei:=hK.len
 have bi:∀ m∈Ms,m.D.length≤268435456:=fun m hm=>by
   obtain ⟨i,hi,rfl⟩:=List.mem_iff_getElem.1 hm
   have h1:=pY Lb Ms[i].cl l
   rw [(hK.mat i hi).len];exact Nat.le_trans (Nat.mul_le_mul (show _≤16384 by omega) (show _≤16384 by omega)) (by decide)
 refine bE Tryz.func124 rfl Tryz.ntmps124 rfl Owns.nil<|aG fun kh1=>f_S (cT rfl rfl fun b7=>?_)
 refine f_S (cT rfl rfl fun b8=>?_);refine f_S (cQ Tryz.zeroValue138 rfl fun az=>?_);refine aB 1 rfl<|aD kh1<|aG fun kh2=>f_Q (aO (vs:=[_,_]) Tryz.isAgg24 Tryz.sizeOf24 rfl rfl ⟨(rdA rfl),(rdA rfl),trivial⟩)<|f_Q (aO (vs:=[_,_]) Tryz.isAgg34 Tryz.sizeOf34 rfl rfl ⟨(rdA rfl),(rdA rfl),trivial⟩)<|aB 2 rfl ?_
 refine f_S (aV Tryz.call122 rfl (fun w_ hp_=>CBetween_spec (n:Int) A l cap Ab bs cb Ac R cc q c w_ (hr.up0 hp_) hl hN hok (hn.up0 hp_)) ?_);rintro _ _ ⟨M,AM,cM,mM,rfl,rfl,de,_,c5⟩;obtain rfl:M=arcs:=by rw [c5 cz,show q.toNat - 1=k1+1 by omega,show q.toNat - 2=k1 by omega,a2,bf,ha]
 rw [cz];dsimp only [aK,aJ];refine aB 5 rfl<|aD kh2<|aS fun kh3=>aR<|aG fun kh4=>aB 3 rfl<|aD kh4<|dX rfl aN<|aG fun kh5=>aB 1 rfl ?_
 refine f_S (aV Tryz.call126 rfl (fun w_ hp_=>qG ep w_ he) ?_);rintro _ _ ⟨rfl,rfl⟩;dsimp only [aK,aJ];refine aB 2 rfl<|aD kh5<|iJ rfl<|aG fun kh6=>aB 1 rfl<|dU sl204 rfl<|aB 1 rfl<|dU bX rfl<|aB 2 rfl<|aD kh6 ?_
 refine dX rfl aN<|dY<|dF<|bO kh3<|aG fun kh7=>f_Q (aO (vs:=[_,_]) Tryz.isAgg24 Tryz.sizeOf24 rfl rfl ⟨(rdA rfl),(rdA rfl),trivial⟩)<|f_Q (aO (vs:=[_,_]) Tryz.isAgg34 Tryz.sizeOf34 rfl rfl ⟨(rdA rfl),(rdA rfl),trivial⟩)<|aB 2 rfl ?_
 refine f_S (aV Tryz.call123 rfl (fun w_ hp_=>NChildren_spec (n:Int) A l cap Ab bs cb Ac R cc q c w_ (hr.up0 hp_) hl hN hok (hn.up0 hp_)) ?_);rintro _ _ ⟨K',AK,cK,mK,rfl,rfl,dj,_,ea⟩;obtain rfl:K' =kids:=(ea bu).trans cd
 rw [bu];dsimp only [aK,aJ];refine aB 5 rfl<|aD kh7<|aS fun kh8=>aG fun kh9=>aB 2 rfl<|aD kh9<|dX rfl aN<|bV kh8<|aS fun kh10=>aG fun kh11=>?_
 refine aB 1 rfl<|dU sl141 rfl<|aB 1 rfl<|dU bX rfl<|aB 1 rfl<|aD kh11<|dX rfl aA<|bV kh10<|aG fun kh12=>f_S (iU fun ap=>?_)
 refine aB 1 rfl<|aD kh12<|aS fun kh13=>aG fun cu=>aB 1 rfl<|dU sl141 rfl<|aB 1 rfl<|aD cu<|aR ?_
 refine dA (α:=Nat×List (Int×Value×Nat)×Nat×List Value×List Seg) [2,3,4,5,7,8,14,16,18,19,81,82] (fun ⟨i,ents,J,vs,ms⟩=>[(83,.int .i64 (i:Int))]) (fun ⟨i,ents,J,vs,ms⟩=>[[(ap,e7 iM ents J)],ms.flatten,mM,mK,[(b7,blk [.int .i64 (n:Int),.slice A l.length cap] 24)],[(b8,blk [.slice Ab bs.length cb,.slice Ac R.length cc] 34)],[(az,blk [.int .i64 0,.int .i64 0,.int .i64 0,.slice none 0 0] 138)]]) (fun ⟨i,ents,J,vs,ms⟩=>i≤Ms.length∧LinkR 260 n (kE Lb l (Ms.take i)) ents vs ms) (fun ⟨i,ents,J,vs,ms⟩=>Ms.length - i) (0,[],0,List.replicate n (.slice none 0 0),List.replicate n []) ?_ ?_ ?_ ?_
 · exact aF
 · dsimp only
   rw [show (List.replicate n ([]:Seg)).flatten=[] from by simp];exact aC
 · exact ⟨Nat.zero_le _,LinkR.start _ _⟩
 ·
  rintro ⟨i,ents,J,vs,ms⟩ ⟨cW,hL⟩;refine aG fun kh15=>aB 1 rfl<|aD kh15<|aS fun kh16=>aX rfl (fun dt=>?_) (fun dt=>?_)
  ·
   have hi:i<Ms.length:=aA
   have b1:i<K'.length:=aA
   have au:=hK.lv i hi
   have b6:=hK.cl i hi b1
   have bp:=hK.mat i hi
   have b9:=hK.ro i hi
   have br:=kE_next (Lb:=Lb) (l:=l) hi
   have aw:=kE_len (Lb:=Lb) (l:=l) (Ms:=Ms.take i) fun m hm=>bi m (List.mem_of_mem_take hm)
   rw [List.length_take] at aw;have b4:=bi _ (List.getElem_mem hi)
   obtain ⟨bk,df,rfl,dd,c6⟩:=c3 (eX gQ i9 aA hi)
   obtain ⟨x,hx⟩:∃ x,Ms[i]=x:=⟨_,rfl⟩
   rw [hx] at au b6 bp b9 br b4;obtain ⟨lv,cl,ax,AD,D,cD⟩:=x
   dsimp only at au b6 bp b9 br b4;obtain ⟨rfl,dp,ej⟩:=au
   have bg:=bL _ (List.getElem_mem b1)
   rw [← b6] at bg;obtain ⟨bK,ds,rfl,rfl⟩:=dj.at_ aA
   obtain ⟨B,hB⟩:∃ B,bdL Lb cl l=B:=⟨_,rfl⟩
   have ay:=fun (v:Int) (h:v∈bdL Lb cl l)=>oL (n:=n) am h
   have cn:=bp.len
   rw [hB] at ay br cn;refine bV kh16<|aS fun kh17=>aR<|aG fun kh18=>aB 1 rfl<|f_Q (aL sl141 rfl rfl (df+i*4))<|f_Q (aO (vs:=[.int .i64 (q - 1),.int .i64 cl,.int .i64 ax,.slice AD D.length cD]) Tryz.isAgg138 Tryz.sizeOf138 rfl rfl (show Rds _ _ _ _ _ (gQ ⟨q - 1,cl,ax,AD,D,cD⟩) by rw [← hx];exact f8 i9 dd c6 hi)) ?_
   refine f_S (cQ Tryz.zeroValue138 rfl fun ez=>?_);refine aB 1 rfl<|f_Z (bP Tryz.sizeOf138 rfl rfl rfl rfl cF [.int .i64 (q - 1),.int .i64 cl,.int .i64 ax,.slice AD D.length cD] rfl ?_)
   refine aD kh18<|aS fun kh19=>aS fun kh20=>gG 24 rfl aW<|dB (aT fa138_0 rfl)<|gC Tryz.isAgg3 rfl (rdA rfl)<|dI 1 rfl<|dB (jC rfl rfl)<|dI 2 rfl<|f_falseS 93 rfl aN ?_
   refine dQ rfl rfl rfl rfl rfl (aT fa138_1 rfl)<|dQ rfl rfl rfl rfl rfl (aH Tryz.isAgg3 rfl (rdA rfl))<|dI 2 rfl<|dQ rfl rfl rfl rfl rfl (aL bX rfl rfl (i))<|dQ rfl rfl rfl rfl rfl (aH Tryz.isAgg3 rfl (rdA (eF (eG b1))))<|dI 3 rfl<|f_falseS 102 rfl aA<|dQ rfl rfl rfl rfl rfl (aT fa138_2 rfl)<|dQ rfl rfl rfl rfl rfl (aH Tryz.isAgg3 rfl (rdA rfl))<|dI 4 rfl ?_
   refine f_falseS 108 rfl aA<|dQ rfl rfl rfl rfl rfl (aO (vs:=[_,_]) Tryz.isAgg24 Tryz.sizeOf24 rfl rfl ⟨(rdA rfl),(rdA rfl),trivial⟩)<|dQ rfl rfl rfl rfl rfl (aO (vs:=[_,_]) Tryz.isAgg34 Tryz.sizeOf34 rfl rfl ⟨(rdA rfl),(rdA rfl),trivial⟩)<|dQ rfl rfl rfl rfl rfl (aO (vs:=[_,_,_,_]) Tryz.isAgg138 Tryz.sizeOf138 rfl rfl ⟨(rdA rfl),(rdA rfl),(rdA rfl),(rdA rfl),trivial⟩)<|eI (iX ?_)
   refine jY rfl rfl rfl rfl rfl (aV Tryz.call74 rfl (fun w_ hp_=>qCheck_spec n A l cap Ab bs cb Ac R cc ⟨q - 1,cl,ax,AD,D,cD⟩ w_ (hG.up0 hp_) bg ⟨dp,by show ax≤_;omega⟩ (by have h:=bp.len;dsimp only;rw [show (q - 1).toNat - 1=k1 by omega,a2];exact h)) ?_);rintro _ _ ⟨rfl,rfl⟩;dsimp only [aK,aJ];refine aB 2 rfl<|aD kh20<|dX rfl aN<|bV kh19<|aG fun kh21=>f_Q (aO (vs:=[_,_]) Tryz.isAgg24 Tryz.sizeOf24 rfl rfl ⟨(rdA rfl),(rdA rfl),trivial⟩)<|f_Q (aO (vs:=[_,_]) Tryz.isAgg34 Tryz.sizeOf34 rfl rfl ⟨(rdA rfl),(rdA rfl),trivial⟩)<|aB 1 rfl<|f_Q (jC rfl rfl)<|cL fa138_1 rfl ?_
   refine cX Tryz.isAgg3 rfl (rdA rfl) ?_;refine f_S (aV Tryz.call9 rfl (fun w_ hp_=>jS (n:Int) A l cap Ab bs cb Ac R cc (q - 1) cl w_ (hr.up0 hp_) hl hN hok (hn.up0 hp_)) ?_);rintro _ _ ⟨B',AB,cB,mB,rfl,rfl,dw,_,c8⟩;obtain rfl:B' =B:=by rw [c8 bg,show (q - 1).toNat - 1=k1 by omega,a2,hB]
   rw [bg];dsimp only [aK,aJ];refine aB 5 rfl<|aD kh21<|aS fun kh22=>aG fun kh23=>aB 2 rfl<|aD kh23<|dX rfl aN<|bV kh22<|aG fun kh24=>cL k4 rfl ?_
   refine cX Tryz.isAgg41 rfl (rdA rfl)<|dU mS rfl<|aB 1 rfl<|aD kh24<|aR ?_
   refine dA (α:=Nat×List (Int×Value×Nat)×Nat×List Value×List Seg) [2,3,4,5,7,8,14,16,18,19,22,81,82,83,131,132] (fun ⟨j,ents,J,vs,ms⟩=>[(133,.int .i64 (j:Int))]) (fun ⟨j,ents,J,vs,ms⟩=>[[(ap,e7 iM ents J)],ms.flatten,mM,[(bK,blk (bF K' ++ds) 3)],mB,[(b7,blk [.int .i64 (n:Int),.slice A l.length cap] 24)],[(b8,blk [.slice Ab bs.length cb,.slice Ac R.length cc] 34)],[(az,blk [.int .i64 0,.int .i64 0,.int .i64 0,.slice none 0 0] 138)]]) (fun ⟨j,ents,J,vs,ms⟩=>j≤D.length∧LinkR 260 n (kE Lb l (Ms.take i)++mxE B' D j) ents vs ms) (fun ⟨j,ents,J,vs,ms⟩=>D.length - j) (0,ents,J,vs,ms) ?_ ?_ ?_ ?_
   · exact aF
   · exact aC
   · exact ⟨Nat.zero_le _,by rw [show mxE B' D 0=[] from rfl,List.append_nil];exact hL⟩
   ·
    rintro ⟨j,ents,J,vs,ms⟩ ⟨dm,hL⟩;refine fF (e:=[(133,_),(2,_),(3,_),(4,_),(5,_),(7,_),(8,_),(14,_),(16,_),(18,_),(19,_),(22,_),(81,_),(82,_),(83,_),(131,_),(132,_)]) aF ?_;refine aG fun kh25=>aB 1 rfl<|aD kh25<|aS fun kh26=>aX rfl (fun cw=>?_) (fun cw=>?_)
    ·
     have hj:j<D.length:=aA
     obtain ⟨a1,be,_⟩:=sq_div (cn▸hj)
     have dT:=Nat.div_le_self j B'.length
     obtain ⟨jq,bW⟩:∃ q,j / B'.length=q:=⟨_,rfl⟩
     obtain ⟨jr,bR⟩:∃ q,j % B'.length=q:=⟨_,rfl⟩
     rw [bW] at a1 dT;rw [bR] at be;obtain ⟨bD,oD,rfl,c2,cq⟩:=b9 (fun e=>by have:=iE D;rw [e] at this;simp at this;omega)
     obtain ⟨v,hv,ba⟩:∃ v:Nat,B'[jq]=(v:Int)∧v<n:=⟨B'[jq].toNat,by have:=ay _ (List.getElem_mem a1);omega,by have:=ay _ (List.getElem_mem a1);omega⟩
     obtain ⟨u,hu,du⟩:∃ u:Nat,B'[jr]=(u:Int)∧u<n:=⟨B'[jr].toNat,by have:=ay _ (List.getElem_mem be);omega,by have:=ay _ (List.getElem_mem be);omega⟩
     obtain ⟨bB,bj,rfl,rfl⟩:=dw.at_ aA
     have Y:=mxE_next B' D j
     have ed:=mxE_len B' D j
     refine bV kh26<|aS fun kh27=>aR<|aG fun kh28=>aB 1 rfl<|f_Q (aL mS rfl rfl (oD+j))<|f_Q (aH Tryz.isAgg46 rfl (show Rd _ _ _ _ _ (.int .u64 (dg D j)) by rw [dg_eq hj];exact d3 (enc:=(.int .u64 ·)) c2 cq hj)) ?_
     refine aB 2 rfl<|aD kh28<|aG fun kh29=>aB 2 rfl<|aD kh29<|aX rfl (fun c139=>?_) (fun c139=>?_)
     ·
      have bY:mxA B' D j=[⟨(v:Int),(u:Int),dg D j⟩]:=by unfold mxA;rw [if_pos c139,bW,bR,eM a1,eM be,hv,hu]
      rw [bY] at Y;refine aG fun ct=>aB 3 rfl<|dU bX rfl<|f_Q (o_quo rfl rfl aA ((jq:Nat):Int) (by rw [tdiv_nat,bW];exact wrap_q aA)) ?_
      refine f_Q (aL bX rfl rfl (jq))<|f_Q (aH Tryz.isAgg3 rfl (rdA (v:= .int .i64 (v:Int)) (eF (by rw [eG a1,hv])))) ?_;refine aB 1 rfl<|aD ct ?_
      obtain ⟨val,rm,rG,ai,an,b3,U⟩:=hL.split ba
      have ab:=outs_le (kE Lb l (Ms.take i)++mxE B' D j) v
      obtain ⟨Ar,cr,rfl,dq⟩:=an.val
      refine eP (Sub.splitF b3)<|c7 [[(bB,blk (bF B' ++bj) 3)]] rfl<|f_T 0 rfl (aU rfl)<|f_T 1 rfl (aU rfl)<|f_T 2 rfl (aU rfl)<|f_T 3 rfl (aU rfl)<|f_T 5 rfl (aU rfl)<|f_T 6 rfl (aU rfl)<|f_T 7 rfl (aU rfl)<|f_T 8 rfl (iH bX rfl) ?_;refine f_T 9 rfl (o_rem rfl rfl aA ((jr:Nat):Int) (by rw [tmod_nat,bR])) ?_;refine f_T 10 rfl (aL bX rfl rfl (jr))<|f_T 11 rfl (aH Tryz.isAgg3 rfl (rdA (v:= .int .i64 (u:Int)) (eF (by rw [eG be,hu])))) ?_
      refine f_T 12 rfl (aU rfl)<|f_T 13 rfl (dL st260 rfl rfl)<|gH 4 14 rfl rfl aW rfl rfl rfl rfl rfl rfl ?_ ?_
      ·
       refine (fD kt257 Tryz.zeroValue258 rfl rfl rfl _ ai).does ⟨aC,?_⟩;refine f_O 14 rfl (bQ el258 aA rfl rfl rfl fun co=>⟨aC,?_⟩);refine f_O 15 rfl (dE el258 rfl rfl an (ys:=[.int .i64 (u:Int),.int .u64 (dg D j)]) ⟨(rdA rfl),(rdA rfl),trivial⟩ rfl rfl (by rw [List.length_append] at ab;omega) (by rw [List.length_append] at ab;omega) fun ac ad ak=>⟨aC,?_⟩);refine fZ 16 rfl (e8 kt257 rfl rfl rfl rfl ⟨aC,?_⟩);refine cU aW<|dF<|bO kh27<|aI<|f_Q (a8 rfl rfl)<|aB 1 rfl<|aZ<|f9 (Sub.joinF (m:=ad) (G' :=rG) (U ⟨(v:Int),(u:Int),dg D j⟩ _ _ J (Int.toNat_natCast v) ak).2) ?_
       refine cS (a6 (j+1,fS ents (v:Int) ac J,fK ents (v:Int) J,vs.set v ac,ms.set v ad) (by first|omega|(dsimp only;omega)|(simp;omega)) ⟨aA,by rw [Y,← List.append_assoc];exact (U ⟨(v:Int),(u:Int),dg D j⟩ _ _ J (Int.toNat_natCast v) ak).1⟩ ?_ ?_ ?_)
       · exact aF
       · exact aF
       · exact aC
      ·
       refine (bQ el258 aA rfl rfl rfl fun co=>⟨aC,?_⟩);refine f_O 4 rfl ((fD kt257 Tryz.zeroValue258 rfl rfl rfl _ ai).does ⟨aC,?_⟩);refine f_O 15 rfl (dE el258 rfl rfl an (ys:=[.int .i64 (u:Int),.int .u64 (dg D j)]) ⟨(rdA rfl),(rdA rfl),trivial⟩ rfl rfl (by rw [List.length_append] at ab;omega) (by rw [List.length_append] at ab;omega) fun ac ad ak=>⟨aC,?_⟩);refine fZ 16 rfl (e8 kt257 rfl rfl rfl rfl ⟨aC,?_⟩);refine cU aW<|dF<|bO kh27<|aI<|f_Q (a8 rfl rfl)<|aB 1 rfl<|aZ<|f9 (Sub.joinF (m:=ad) (G' :=rG) (U ⟨(v:Int),(u:Int),dg D j⟩ _ _ J (Int.toNat_natCast v) ak).2) ?_
       refine cS (a6 (j+1,fS ents (v:Int) ac J,fK ents (v:Int) J,vs.set v ac,ms.set v ad) (by first|omega|(dsimp only;omega)|(simp;omega)) ⟨aA,by rw [Y,← List.append_assoc];exact (U ⟨(v:Int),(u:Int),dg D j⟩ _ _ J (Int.toNat_natCast v) ak).1⟩ ?_ ?_ ?_)
       · exact aF
       · exact aF
       · exact aC
     ·
      have bY:mxA B' D j=[]:=by unfold mxA;rw [if_neg c139]
      rw [bY,List.append_nil] at Y;refine dY<|dF<|bO kh27<|aI<|f_Q (a8 rfl rfl)<|aB 1 rfl<|aZ ?_
      refine cS (a6 (j+1,ents,J,vs,ms) (by first|omega|(dsimp only;omega)|(simp;omega)) ⟨aA,by rw [Y];exact hL⟩ ?_ ?_ ?_)
      · exact aF
      · exact aF
      · exact aC
    ·
     obtain rfl:j=D.length:=aA
     refine cN<|cO<|cO<|eC<|dF<|bO kh17<|aI<|f_Q (a8 rfl rfl)<|aB 1 rfl<|aZ ?_
     refine cS (a6 (i+1,ents,J,vs,ms) (by first|omega|(dsimp only;omega)|(simp;omega)) ⟨aA,by rw [br];exact hL⟩ ?_ ?_ ?_)
     · exact aF
     · exact aF
     · exact aC
  ·
   obtain rfl:i=Ms.length:=aA
   rw [List.take_length] at hL;refine cN<|cO<|cO<|eC<|bO kh13<|aS fun kh31=>aG fun cg=>aB 1 rfl<|dU bX rfl<|aB 1 rfl ?_
   refine aD cg<|aR ?_
   refine dA (α:=Nat×List (Int×Value×Nat)×Nat×List Value×List Seg) [2,3,4,5,7,8,14,19,165,166] (fun ⟨k,ents,J,vs,ms⟩=>[(167,.int .i64 (k:Int))]) (fun ⟨k,ents,J,vs,ms⟩=>[[(ap,e7 iM ents J)],ms.flatten,mM,[(b7,blk [.int .i64 (n:Int),.slice A l.length cap] 24)],[(b8,blk [.slice Ab bs.length cb,.slice Ac R.length cc] 34)],[(az,blk [.int .i64 0,.int .i64 0,.int .i64 0,.slice none 0 0] 138)]]) (fun ⟨k,ents,J,vs,ms⟩=>k≤M.length∧LinkR 260 n (kE Lb l Ms++aE l (M.take k)) ents vs ms) (fun ⟨k,ents,J,vs,ms⟩=>M.length - k) (0,ents,J,vs,ms) ?_ ?_ ?_ ?_
   · exact aF
   · exact aC
   · exact ⟨Nat.zero_le _,by rw [List.take_zero,show aE l []=[] from rfl,List.append_nil];exact hL⟩
   ·
    rintro ⟨k,ents,J,vs,ms⟩ ⟨eh,hL⟩;refine fF (e:=[(167,_),(2,_),(3,_),(4,_),(5,_),(7,_),(8,_),(14,_),(19,_),(165,_),(166,_)]) aF ?_;refine aG fun kh33=>aB 1 rfl<|aD kh33<|aS fun kh34=>aX rfl (fun cp=>?_) (fun cp=>?_)
    ·
     have hk:k<M.length:=aA
     obtain ⟨i,hi,X⟩:=cI _ (List.getElem_mem hk)
     have ek:=am i X
     obtain ⟨v,hv,ba⟩:∃ v:Nat,l[i].src=(v:Int)∧v<n:=⟨l[i].src.toNat,aA,aA⟩
     obtain ⟨bA,oA,cC,cv,ce⟩:=hr (eX bZ dD aA X)
     have el:=wtL_len l M
     have hwk:k<(wtL l M).length:=aA
     have dn:(wtL l M)[k]=l[i].wt:=by have:=wtL_at hk X hi;rw [List.getElem?_eq_getElem hwk] at this;exact Option.some.inj this
     obtain ⟨b2,o2,rfl,dr,c4⟩:=b5 (fX hwk)
     obtain ⟨en,ey,rfl,rfl⟩:=de.at_ aA
     have Y:=aE_next hk X hi
     have aw:=kE_len (Lb:=Lb) (l:=l) bi
     have bw:=aE_len l (M.take k)
     rw [List.length_take] at bw;have ee:=bq _ (List.getElem_mem X)
     have ec:=bv _ (List.getElem_mem X)
     refine bV kh34<|aS fun kh35=>aR<|aG fun kh36=>aB 1 rfl<|f_Q (aL bX rfl rfl (k))<|f_Q (aH Tryz.isAgg3 rfl (rdA (v:= .int .i64 (i:Int)) (eF (by rw [eG hk,hi])))) ?_
     refine aB 2 rfl<|aD kh36<|aG fun kh37=>cL fT rfl<|f_Q (aH Tryz.isAgg22 rfl (v:= .slice (some ⟨bA,oA,none⟩) l.length cap) (rdA (by rw [← cC];rfl))) ?_
     refine aB 1 rfl<|f_Q (aL jB rfl rfl (oA+i*3))<|cL fY rfl<|f_Q (aH Tryz.isAgg3 rfl (show Rd _ _ _ _ _ (.int .i64 (v:Int)) by rw [← hv];exact rdS cv (by have:=ce (i*3+0) _ (by rw [iV bZ dD l i 0 X aA];rfl);rwa [← Nat.add_assoc] at this))) ?_
     refine aB 1 rfl<|aD kh37 ?_
     obtain ⟨val,rm,rG,ai,an,b3,U⟩:=hL.split ba
     have ab:=outs_le (kE Lb l Ms++aE l (M.take k)) v
     obtain ⟨Ar,cr,rfl,dq⟩:=an.val
     refine eP (Sub.splitF b3)<|c7 [[(b7,blk [.int .i64 (n:Int),.slice A l.length cap] 24)]] rfl<|f_T 0 rfl (aU rfl)<|f_T 1 rfl (aU rfl)<|f_T 2 rfl (aU rfl)<|f_T 3 rfl (aU rfl)<|f_T 5 rfl (aT fT rfl)<|f_T 6 rfl (aH Tryz.isAgg22 rfl (v:= .slice (some ⟨bA,oA,none⟩) l.length cap) (rdA (by rw [← cC];rfl))) ?_;refine f_T 7 rfl (aU rfl)<|f_T 8 rfl (aL jB rfl rfl (oA+i*3))<|f_T 9 rfl (aT fO rfl)<|f_T 10 rfl (aH Tryz.isAgg3 rfl (rdS cv (by have:=ce (i*3+1) _ (by rw [iV bZ dD l i 1 X aA];rfl);rwa [← Nat.add_assoc] at this))) ?_
     refine f_T 11 rfl (aU rfl)<|f_T 12 rfl (aU rfl)<|f_T 13 rfl (aL sl204 rfl rfl (o2+k))<|f_T 14 rfl (aH Tryz.isAgg56 rfl (show Rd _ _ _ _ _ (.int .u32 l[i].wt) by rw [← dn];exact d3 (enc:=(.int .u32 ·)) dr c4 hwk)) ?_
     refine f_T 15 rfl (g5 Tryz.runUnderlying56 Tryz.runUnderlying46 rfl _ (iQ aA)) ?_;refine f_T 16 rfl (dL st260 rfl rfl)<|gH 4 17 rfl rfl aW rfl rfl rfl rfl rfl rfl ?_ ?_
     ·
      refine (fD kt257 Tryz.zeroValue258 rfl rfl rfl _ ai).does ⟨aC,?_⟩;refine f_O 17 rfl (bQ el258 aA rfl rfl rfl fun cR=>⟨aC,?_⟩);refine f_O 18 rfl (dE el258 rfl rfl an (ys:=[.int .i64 l[i].dst,.int .u64 l[i].wt]) ⟨(rdA rfl),(rdA rfl),trivial⟩ rfl rfl (by rw [List.length_append] at ab;omega) (by rw [List.length_append] at ab;omega) fun ag ae al=>⟨aC,?_⟩);refine fZ 19 rfl (e8 kt257 rfl rfl rfl rfl ⟨aC,?_⟩);refine cU aW<|dF<|bO kh35<|aI<|f_Q (a8 rfl rfl)<|aB 1 rfl<|aZ<|f9 (Sub.joinF (m:=ae) (G' :=rG) (U l[i] _ _ J aA al).2) ?_
      refine cS (a6 (k+1,fS ents (v:Int) ag J,fK ents (v:Int) J,vs.set v ag,ms.set v ae) (by first|omega|(dsimp only;omega)|(simp;omega)) ⟨aA,by rw [Y,← List.append_assoc];exact (U l[i] _ _ J aA al).1⟩ ?_ ?_ ?_)
      · exact aF
      · exact aF
      · exact aC
     ·
      refine (bQ el258 aA rfl rfl rfl fun cR=>⟨aC,?_⟩);refine f_O 4 rfl ((fD kt257 Tryz.zeroValue258 rfl rfl rfl _ ai).does ⟨aC,?_⟩);refine f_O 18 rfl (dE el258 rfl rfl an (ys:=[.int .i64 l[i].dst,.int .u64 l[i].wt]) ⟨(rdA rfl),(rdA rfl),trivial⟩ rfl rfl (by rw [List.length_append] at ab;omega) (by rw [List.length_append] at ab;omega) fun ag ae al=>⟨aC,?_⟩);refine fZ 19 rfl (e8 kt257 rfl rfl rfl rfl ⟨aC,?_⟩);refine cU aW<|dF<|bO kh35<|aI<|f_Q (a8 rfl rfl)<|aB 1 rfl<|aZ<|f9 (Sub.joinF (m:=ae) (G' :=rG) (U l[i] _ _ J aA al).2) ?_
      refine cS (a6 (k+1,fS ents (v:Int) ag J,fK ents (v:Int) J,vs.set v ag,ms.set v ae) (by first|omega|(dsimp only;omega)|(simp;omega)) ⟨aA,by rw [Y,← List.append_assoc];exact (U l[i] _ _ J aA al).1⟩ ?_ ?_ ?_)
      · exact aF
      · exact aF
      · exact aC
    ·
     obtain rfl:k=M.length:=aA
     rw [List.take_length] at hL;have aw:=kE_len (Lb:=Lb) (l:=l) bi
     have bw:=aE_len l M
     have dk:(kE Lb l Ms++aE l M).length≤281474976710656:=by rw [List.length_append];omega
     have dh:LkOk n (kE Lb l Ms++aE l M):=fun a h=>by
       rcases bM.src a h with ⟨kk,_,h1,h2,h3,h4⟩|⟨h1,_⟩
       · exact ⟨oL am h1,oL am h2,h4.nonneg bq,Int.le_of_lt h3⟩
       · have h3:=bv a h1
         have h4:=bq a h1
         obtain ⟨i,hi,rfl⟩:=List.mem_iff_getElem.1 h1
         have h5:=am i hi
         exact ⟨aA,aA,h4,by unfold INF;omega⟩
     refine cN<|cO<|cO<|eC<|bO kh31<|aG fun kh38=>f_Q (aO (vs:=[_,_]) Tryz.isAgg24 Tryz.sizeOf24 rfl rfl ⟨(rdA rfl),(rdA rfl),trivial⟩)<|f_Q (aO (vs:=[_,_]) Tryz.isAgg34 Tryz.sizeOf34 rfl rfl ⟨(rdA rfl),(rdA rfl),trivial⟩)<|aB 2 rfl ?_
     refine f_S (aV Tryz.call9 rfl (fun w_ hp_=>jS (n:Int) A l cap Ab bs cb Ac R cc q c w_ (hr.up0 hp_) hl hN hok (hn.up0 hp_)) ?_);rintro _ _ ⟨F,ew,et,da,rfl,rfl,cy,_,ci⟩;obtain bc:F=bdL L c l:=by rw [ci bh,show q.toNat - 1=k1+1 by omega,bf]
     have cj:=pY L c l
     have aa:=fun (v:Int) (h:v∈bdL L c l)=>oL (n:=n) am h
     rw [← bc] at cj aa;rw [bh];dsimp only [aK,aJ];refine aB 5 rfl<|aD kh38<|aS fun kh39=>aG fun kh40=>aB 2 rfl<|aD kh40<|dX rfl aN<|bV kh39<|aG fun kh41=>aB 3 rfl ?_
     refine f_Q (dL st138 rfl rfl)<|f_S (cQ Tryz.zeroValue138 rfl fun b31=>?_)
     refine f_Z (bP Tryz.sizeOf138 rfl rfl rfl rfl cF _ rfl ?_);refine aD kh41<|aS fun kh42=>aG fun c0=>aB 1 rfl<|dU bX rfl<|aB 1 rfl<|aD c0<|aR ?_
     refine dA (α:=Nat×List Int×Value×Seg) [7,14,19,30,31,214,215] (fun ⟨i,D2,dv,md⟩=>[(216,.int .i64 (i:Int))]) (fun ⟨i,D2,dv,md⟩=>[[(b31,blk [.int .i64 q,.int .i64 c,.int .i64 ep,dv] 138)],md,[(ap,e7 iM ents J)],ms.flatten,da,[(b7,blk [.int .i64 (n:Int),.slice A l.length cap] 24)],[(az,blk [.int .i64 0,.int .i64 0,.int .i64 0,.slice none 0 0] 138)]]) (fun ⟨i,D2,dv,md⟩=>i≤F.length∧Own 46 1 dv D2.length (fH D2) md∧MRows F (IsB (kE Lb l Ms++aE l M) i4) D2 i) (fun ⟨i,D2,dv,md⟩=>F.length - i) (0,[],.slice none 0 0,[]) ?_ ?_ ?_ ?_
     · exact aF
     · exact aC
     · exact ⟨Nat.zero_le _,Own.nil _ _,MRows.nil _ _⟩
     ·
      rintro ⟨i,D2,dv,md⟩ ⟨cW,hO,hR⟩;refine fF (e:=[(216,_),(7,_),(14,_),(19,_),(30,_),(31,_),(214,_),(215,_)]) aF ?_;refine aG fun kh44=>aB 1 rfl<|aD kh44<|aS fun kh45=>aX rfl (fun cH=>?_) (fun cH=>?_)
      ·
       have hi:i<F.length:=aA
       obtain ⟨v,hv,ba⟩:∃ v:Nat,F[i]=(v:Int)∧v<n:=⟨F[i].toNat,by have:=aa _ (List.getElem_mem hi);omega,by have:=aa _ (List.getElem_mem hi);omega⟩
       obtain ⟨bB,bj,rfl,rfl⟩:=cy.at_ aA
       have b4:D2.length≤268435456:=by rw [hR.len];exact Nat.le_trans (Nat.mul_le_mul (show i≤16384 by omega) (show F.length≤16384 by omega)) (by decide)
       refine bV kh45<|aS fun kh46=>aR<|aG fun kh47=>f_Q (aL bX rfl rfl (i))<|f_Q (aH Tryz.isAgg3 rfl (rdA (v:= .int .i64 (v:Int)) (eF (by rw [eG hi,hv])))) ?_
       refine aB 1 rfl<|aD kh47<|aG fun kh48=>cL eT rfl<|cX Tryz.isAgg3 rfl (rdA rfl)<|aB 2 rfl ?_
       refine f_S (d4 [[(ap,e7 iM ents J)],ms.flatten] _ Tryz.call160 rfl (by repeat (first|exact Sub.refl|refine aM ?_)) (fun w_ hp_=>spread_spec n ⟨aA,aA⟩ (kE Lb l Ms++aE l M) dh dk ents J ap vs ms hL v ba w_ hp_.owns) ?_);rintro _ _ ⟨W,bd,rfl,rfl,hW⟩;have eo:=hW.len
       dsimp only [aK,aJ];refine aB 1 rfl<|aD kh48<|aG fun kh49=>aB 1 rfl<|dU bX rfl<|aB 1 rfl<|aD kh49<|aR ?_
       refine dA (α:=Nat×Value×Seg) [7,14,19,30,31,34,214,215,216,225,226] (fun ⟨j,ar,ao⟩=>[(227,.int .i64 (j:Int))]) (fun ⟨j,ar,ao⟩=>[[(b31,blk [.int .i64 q,.int .i64 c,.int .i64 ep,ar] 138)],ao,[(bd,blk (fH W) 46)],[(ap,e7 iM ents J)],ms.flatten,[(bB,blk (bF F++bj) 3)],[(b7,blk [.int .i64 (n:Int),.slice A l.length cap] 24)],[(az,blk [.int .i64 0,.int .i64 0,.int .i64 0,.slice none 0 0] 138)]]) (fun ⟨j,ar,ao⟩=>j≤F.length∧Own 46 1 ar (D2++j2 (F.take j) W).length (fH (D2++j2 (F.take j) W)) ao) (fun ⟨j,ar,ao⟩=>F.length - j) (0,dv,md) ?_ ?_ ?_ ?_
       · exact aF
       · exact aC
       · exact ⟨Nat.zero_le _,by simpa [j2] using hO⟩
       ·
        rintro ⟨j,ar,ao⟩ ⟨dm,hO'⟩;refine fF (e:=[(227,_),(7,_),(14,_),(19,_),(30,_),(31,_),(34,_),(214,_),(215,_),(216,_),(225,_),(226,_)]) aF ?_;refine aG fun kh50=>aB 1 rfl<|aD kh50<|aS fun kh51=>aX rfl (fun cm=>?_) (fun cm=>?_)
        ·
         have hj:j<F.length:=aA
         obtain ⟨u,hu,du⟩:∃ u:Nat,F[j]=(u:Int)∧u<n:=⟨F[j].toNat,by have:=aa _ (List.getElem_mem hj);omega,by have:=aa _ (List.getElem_mem hj);omega⟩
         have Y:j2 (F.take (j+1)) W=j2 (F.take j) W++[dg W u]:=by rw [rowD_take hj,hu];rfl
         have c9:=rowD_len (F.take j) W
         rw [List.length_take] at c9;refine bV kh51<|aS fun kh52=>aR<|aG fun kh53=>f_Q (aL bX rfl rfl (j))<|f_Q (aH Tryz.isAgg3 rfl (rdA (v:= .int .i64 (u:Int)) (eF (by rw [eG hj,hu])))) ?_
         refine aB 1 rfl<|aD kh53<|c7 [[(bd,blk (fH W) 46)],[(bB,blk (bF F++bj) 3)]] rfl<|f_T 0 rfl (aT k4 rfl)<|f_T 2 rfl (aU rfl)<|f_T 3 rfl (aU rfl)<|f_T 4 rfl (aL mS rfl rfl (u))<|f_T 5 rfl (aH Tryz.isAgg46 rfl (rdA (mQ (dg_at aA))))<|gH 1 6 rfl rfl aW rfl rfl rfl rfl rfl rfl ?_ ?_
         ·
          refine (aH Tryz.isAgg41 rfl (rdA rfl)).does ⟨aC,?_⟩;refine f_O 6 rfl (bQ q6 aA rfl rfl rfl fun cY=>⟨aC,?_⟩);refine f_O 7 rfl (dE q6 rfl rfl hO' (ys:=[.int .u64 (dg W u)]) ⟨(rdA rfl),trivial⟩ rfl rfl (by rw [List.length_append];omega) (by rw [List.length_append];omega) fun cf av aj=>⟨aC,?_⟩);obtain ⟨ah,O,rfl,_⟩:=aj.val
          refine f_T 8 rfl (aT k4 rfl)<|fZ 9 rfl (bU Tryz.sizeOf41 rfl rfl rfl rfl (Nat.le_refl _) [.int .i64 q,.int .i64 c,.int .i64 ep,.slice ah ((D2++j2 (F.take j) W).length+1) O] rfl ⟨aC,?_⟩)
          refine cU aW<|dF<|bO kh52<|aI<|f_Q (a8 rfl rfl)<|aB 1 rfl<|aZ ?_
          refine cS (a6 (j+1,.slice ah ((D2++j2 (F.take j) W).length+1) O,av) (by first|omega|(dsimp only;omega)|(simp;omega)) ⟨aA,by rw [Y,← List.append_assoc,← u64_len1];exact aj⟩ ?_ ?_ ?_)
          · exact aF
          · exact aF
          · exact aC
         ·
          refine (bQ q6 aA rfl rfl rfl fun cY=>⟨aC,?_⟩);refine f_O 1 rfl ((aH Tryz.isAgg41 rfl (rdA rfl)).does ⟨aC,?_⟩);refine f_O 7 rfl (dE q6 rfl rfl hO' (ys:=[.int .u64 (dg W u)]) ⟨(rdA rfl),trivial⟩ rfl rfl (by rw [List.length_append];omega) (by rw [List.length_append];omega) fun cf av aj=>⟨aC,?_⟩);obtain ⟨ah,O,rfl,_⟩:=aj.val
          refine f_T 8 rfl (aT k4 rfl)<|fZ 9 rfl (bU Tryz.sizeOf41 rfl rfl rfl rfl (Nat.le_refl _) [.int .i64 q,.int .i64 c,.int .i64 ep,.slice ah ((D2++j2 (F.take j) W).length+1) O] rfl ⟨aC,?_⟩)
          refine cU aW<|dF<|bO kh52<|aI<|f_Q (a8 rfl rfl)<|aB 1 rfl<|aZ ?_
          refine cS (a6 (j+1,.slice ah ((D2++j2 (F.take j) W).length+1) O,av) (by first|omega|(dsimp only;omega)|(simp;omega)) ⟨aA,by rw [Y,← List.append_assoc,← u64_len1];exact aj⟩ ?_ ?_ ?_)
          · exact aF
          · exact aF
          · exact aC
        ·
         obtain rfl:j=F.length:=aA
         rw [List.take_length] at hO';refine cN<|cO<|cO<|eC<|dF<|bO kh46<|aI<|f_Q (a8 rfl rfl)<|aB 1 rfl<|aZ ?_
         refine cS (a6 (i+1,D2++j2 F W,ar,ao) (by first|omega|(dsimp only;omega)|(simp;omega)) ⟨aA,hO',hR.next hi fun j hj=>by rw [hv,Int.toNat_natCast];exact hW.isB (by have:=aa _ (List.getElem_mem hj);omega)⟩ ?_ ?_ ?_)
         · exact aF
         · exact aF
         · exact aC
      ·
       obtain rfl:i=F.length:=aA
       obtain ⟨AD,cD,rfl,cq⟩:=hO.val
       refine cN<|cO<|cO<|eC<|bO kh42<|aG fun kh54=>f_Q (aO (vs:=[_,_,_,_]) Tryz.isAgg138 Tryz.sizeOf138 rfl rfl ⟨(rdA rfl),(rdA rfl),(rdA rfl),(rdA rfl),trivial⟩)<|f_Z (bP Tryz.sizeOf138 rfl rfl rfl rfl cF _ rfl ?_)
       refine aB 1 rfl<|aD kh54<|aY ?_
       exact gW (vs:=gQ ⟨q,c,ep,AD,D2,cD⟩) [md] Tryz.results124 rfl Tryz.isAgg138 Tryz.sizeOf138 rfl ⟨(rdA rfl),(rdA rfl),(rdA rfl),(rdA rfl),trivial⟩ rfl aC ⟨D2,AD,cD,md,rfl,rfl,hO,up_ok am bq bC bt Z bM (by rw [← bc];exact hR.len) (by rw [← bc];exact fun a j ha hj=>hR.at_ a j ha ha hj)⟩
abbrev rC:=Option Addr×List Mx×Nat
abbrev mrV (r:rC):Value:= .slice r.1 r.2.1.length r.2.2
def gJ (O:List rC):List (List Mx):=O.map (·.2.1)
theorem jV (O:List rC):(gJ O).length=O.length:=by simp [gJ]
theorem lZ {O:List rC} {k:Nat} (h:k<O.length):(gJ O).getD k []=O[k].2.1:=by simp [gJ,List.getD_eq_getElem?_getD,h]
structure OvRo (S:Nat→Prop) (w:World) (Ao:Option Addr) (O:List rC):Prop where
 o:Ro S w Ao (O.map mrV)
 ol:O.length≤9223372036854775807
 rows:∀ r∈O,Ro S w r.1 (r.2.1.flatMap gQ)∧r.2.1.length≤9223372036854775807
 mats:∀ r∈O,∀ m∈r.2.1,Ro S w m.A (fH m.D)
theorem OvRo.up0 {S:Nat→Prop} {w0 w:World} {m:Seg} {F:Option Addr} {O:List rC} (h:OvRo S w0 F O) (hp:Hp S w0 m w):OvRo (Fr w []) w F O:=
 ⟨h.o.up0 hp,h.ol,fun r hr=>⟨(h.rows r hr).1.up0 hp,(h.rows r hr).2⟩,fun r hr m hm=>(h.mats r hr m hm).up0 hp⟩
theorem OvRo.nil (S:Nat→Prop) (w:World):OvRo S w none []:=⟨Ro.nil,aN,(fun r hr=>by cases hr),(fun r hr=>by cases hr)⟩
structure MxOk (l:List Arc) (L:List Int) (k:Nat) (c ep:Int) (x:Mx):Prop where
 lv:x.lv=(k:Int)+1
 cl:x.cl=c
 ep:0≤x.ep∧x.ep≤ep
 mat:MatOk l L c x.D
def RowOk (l:List Arc) (L:List Int) (k:Nat) (ep:Int) (row:List Mx):Prop:=∀ c:Nat,(c:Int)≤e9 L→∃ x,row[c]? =some x∧MxOk l L k (c:Int) ep x
def oC (row:List Mx) (kids:List Int):List Mx:=kids.map fun x=>row[x.toNat]?.getD ⟨0,0,0,none,[],0⟩
theorem kidsM_len (row:List Mx) (kids:List Int):(oC row kids).length=kids.length:=by simp [oC]
theorem kidsM_next {row:List Mx} {kids:List Int} {i x:Nat} (hi:i<kids.length) (hx:x<row.length) (e:kids[i]=(x:Int)):oC row (kids.take (i+1))=oC row (kids.take i)++[row[x]]:=by
 unfold oC;rw [List.take_succ_eq_append_getElem hi,List.map_append];simp [e,hx]
theorem kid_m {S:Nat→Prop} {w:World} {n J:Nat} {l:List Arc} {Lb L:List Int} {c ep:Int} {kids:List Int} {row:List Mx} (hn:1≤n) (hk:Kids n Lb L c kids) (hl:Lb.length=n) (X:eH (n:Int) Lb=true) (F:RowOk l Lb J ep row) (O:∀ m∈row,Ro S w m.A (fH m.D)):
  KidM S w l Lb ((J:Int)+1) ep kids (oC row kids)∧∀ x∈kids,∃ y:Nat,x=(y:Int)∧y<row.length:=by
 have key:∀ x∈kids,∃ y:Nat,x=(y:Int)∧∃ m,row[y]? =some m∧MxOk l Lb J x ep m:=fun x hx=>by
  obtain ⟨v,hv,_,e⟩:=hk.has x hx
  have hm:x∈Lb:=by rw [← e,eM aA];exact List.getElem_mem _
  have h1:=e5 X hn x hm
  have h2:=iI hm
  obtain ⟨y,rfl⟩:∃ y:Nat,x=(y:Int):=⟨x.toNat,aA⟩
  obtain ⟨m,h3,U⟩:=F y h2
  exact ⟨y,rfl,m,h3,U⟩
 have at_:∀ i (h:i<(oC row kids).length) (h' :i<kids.length),(oC row kids)[i]∈row∧MxOk l Lb J kids[i] ep (oC row kids)[i]:=fun i h h' =>by
  obtain ⟨y,e,m,h3,U⟩:=key _ (List.getElem_mem h')
  have:(oC row kids)[i]=m:=by simp only [oC,List.getElem_map];rw [e,Int.toNat_natCast,h3];rfl
  rw [this];exact ⟨List.mem_of_getElem? h3,U⟩
 have hlen:=kidsM_len row kids
 refine ⟨⟨hlen,fun i h=>?_,fun i h h' =>(at_ i h h').2.cl,fun i h=>?_,fun i h=>O _ (at_ i h aA).1⟩,fun x hx=>?_⟩
 ·have:=(at_ i h aA).2;exact ⟨this.lv,this.ep⟩
 ·have:=(at_ i h aA).2;rw [this.cl];exact this.mat
 ·obtain ⟨y,e,m,h3,_⟩:=key x hx
  exact ⟨y,e,(List.getElem?_eq_some_iff.1 h3).1⟩
theorem rdsBlk {S:Nat→Prop} {w0:World} {segs:List Seg} {b:Nat} {cs:List Value} {T:TypeId} {f:Seg→List Seg} [h:At segs b (blk cs T) f]:Rds S w0 segs b 0 cs:=oO cs 0 fun j v hj=>by rw [Nat.zero_add];exact rdA hj
theorem mx_one (m:Mx):(gQ m).all (·.oneCell')=true:=rfl
theorem mxs_append (a b:List Mx):(a++b).flatMap gQ=a.flatMap gQ++b.flatMap gQ:=List.flatMap_append
theorem mx_len1 {E:TypeId} {v:Value} {Ms:List Mx} {x:Mx} {m:Seg}:Own E 4 v (Ms.length+1) (Ms.flatMap gQ++gQ x) m=Own E 4 v (Ms++[x]).length ((Ms++[x]).flatMap gQ) m:=by
 rw [mxs_append,List.length_append];simp
theorem ro_none {S:Nat→Prop} {w:World} {A:Option Addr} {D:List Int} (h:Ro S w A (fH D)) (e:A=none):D.length=0:=by
 rcases Nat.eq_zero_or_pos D.length with F|F
 ·exact F
 ·obtain ⟨b,o,e2,_⟩:=h (fun e=>by have:=iE D;rw [e] at this;simp at this;omega)
  rw [e] at e2;cases e2
theorem u64s_one (D:List Int):(fH D).all (·.oneCell')=true:=List.all_eq_true.2 fun v hv=>by obtain ⟨x,_,rfl⟩:=List.mem_map.1 hv;rfl
theorem CloneD_spec (A:Option Addr) (len:Nat) (cs:List Value) (cap:Nat) (w:World) (hs:Ro (Fr w []) w A cs) (hn:A=none→len=0) (hl:cs.length=len*1) (hone:cs.all (·.oneCell')=true) (O:len≤1000000000):
    Meets Tryz.prog 125 [.slice A len cap] w [] (fun u own' =>∃ m,own' =[m]∧Own 46 1 u len cs m):=by
 refine bE Tryz.func125 rfl Tryz.ntmps125 rfl Owns.nil<|aG fun kh1=>aB 1 rfl<|aD kh1<|aS fun kh2=>aG fun kh3=>aB 1 rfl<|f_Q (o_eqlSl Tryz.underlying41 rfl rfl)<|aD kh3<|eO rfl (fun c4=>?_) (fun c4=>?_)
 ·obtain rfl:A=none:=by cases A<;>first|rfl|simp at c4
  obtain rfl:len=0:=hn rfl
  obtain rfl:cs=[]:=List.eq_nil_of_length_eq_zero (by simpa using hl)
  refine aG fun F=>aB 1 rfl<|aD F<|aY<|cV ?_
  exact bJ [[]] Tryz.results125 rfl Sub.empty ⟨[],rfl,Own.nil _ _⟩
 ·refine bV kh2<|aG fun kh5=>f_S (o_slice0 q6 fun X=>?_)
  refine aB 1 rfl<|f_S (pF q6 rfl rfl (Own.mk (b:=X) (cs:=[]) (len:=0) rfl aA) (ys:=cs) (fun hne=>by obtain ⟨b,off,e,Y,hc⟩:=hs hne;exact ⟨b,off,e,Seen.rds fun _=>⟨Y,hc⟩⟩) hl hone aA aA fun Z J U=>?_)
  refine aB 1 rfl<|aD kh5<|aY ?_
  exact bJ [J] Tryz.results125 rfl (by repeat (first|exact aP|refine aM ?_)) ⟨J,rfl,by simpa using U⟩
theorem oepochs_spec (ep:Int) (w:World) (he:0≤ep∧ep≤1073741824):Meets Tryz.prog 39 [.int .i64 ep] w [] (fun u m=>u= .bool true∧m=[]):=by
 refine bE Tryz.func39 rfl Tryz.ntmps39 rfl Owns.nil<|aG fun kh1=>aB 1 rfl<|aD kh1<|aG fun kh2=>aB 3 rfl<|f_trueL 5 rfl aA<|aB 4 rfl<|aD kh2<|aY ?_
 exact bJ [] Tryz.results39 rfl aP ⟨by rw [decide_eq_true he.2],rfl⟩
theorem made_spec (n:Nat) (A:Option Addr) (l:List Arc) (cap:Nat) (Ab:Option Addr) (bs:List Int) (cb:Nat) (Ac:Option Addr) (R:List Row) (cc:Nat) (Ao:Option Addr) (O:List rC) (co:Nat) (q c ep f:Int) (k:Nat) (w:World) (hG:GN (Fr w []) w n A l Ab bs Ac R) (hO:OvRo (Fr w []) w Ao O) (hq:q=(k:Int)+1) (ar:clE (n:Int) l bs (bG R) q c=0) (he:0≤ep∧ep≤1073741824) (h1:f=1→k=0) (h2:f=2→∃ U,k=U+1∧U<O.length∧RowOk l ((bG R).getD U []) U ep ((gJ O).getD U []))
    (h0:f≠1→f≠2→k<O.length∧∃ x,((gJ O).getD k [])[c.toNat]? =some x∧MxOk l ((bG R).getD k []) k c ep x):
    Meets Tryz.prog 73 [.agg #[.int .i64 (n:Int),.slice A l.length cap],.agg #[.slice Ab bs.length cb,.slice Ac R.length cc],.slice Ao O.length co,.int .i64 q,.int .i64 c,.int .i64 ep,.int .i64 f] w [] (fun u own' =>∃ (x:Mx) (m' :Seg),u= .tuple #[.agg (gQ x).toArray,.int .i64 0]∧own' =[m']∧Own 46 1 (.slice x.A x.D.length x.cap) x.D.length (fH x.D) m'∧MxOk l ((bG R).getD k []) k c ep x):=by
 have cf:=hG
 obtain ⟨hr,hok,hn,aa⟩:=cf
 obtain ⟨ct,cv,hlen,cm⟩:=bS aa.g
 have hl:l.length≤9223372036854775807:=aA
 have hN:I64 (n:Int):=by constructor<;>omega
 have bM:=aa.len
 rw [d5] at bM;have b9:=aa.many
 refine bE Tryz.func73 rfl Tryz.ntmps73 rfl Owns.nil<|aG fun kh1=>f_S (cT rfl rfl fun b7=>?_)
 refine f_S (cT rfl rfl fun b8=>?_);refine f_S (cQ Tryz.zeroValue138 rfl fun b3=>?_);refine aB 1 rfl<|aD kh1<|aS fun kh2=>aG fun kh3=>aB 1 rfl<|aD kh3<|aR<|aG fun kh4=>aB 2 rfl<|aD kh4<|aX rfl (fun c28=>?_) (fun c28=>?_)
 ·obtain rfl:=h1 c28
  obtain rfl:q=1:=aA
  have ao:=ar
  refine aG fun kh5=>f_Q (aO (vs:=[_,_]) Tryz.isAgg24 Tryz.sizeOf24 rfl rfl ⟨(rdA rfl),(rdA rfl),trivial⟩)<|f_Q (aO (vs:=[_,_]) Tryz.isAgg34 Tryz.sizeOf34 rfl rfl ⟨(rdA rfl),(rdA rfl),trivial⟩)<|aB 1 rfl ?_
  refine f_S (aV Tryz.call119 rfl (fun w_ F=>CInner_spec (n:Int) A l cap Ab bs cb Ac R cc 1 c w_ (hr.up0 F) hl hN hok (hn.up0 F)) ?_);rintro _ _ ⟨M,AM,cM,mM,rfl,rfl,an,_,ba⟩;obtain rfl:=ba ao
  rw [ao];have bh:=kX (inP ((bG R).getD 0 []) c) l
  have aq:rD l (gF (inP ((bG R).getD 0 []) c) l):=mV _ _
  rw [show (1:Int).toNat - 1=0 from rfl] at an ⊢;obtain ⟨M,hM⟩:∃ M,gF (inP ((bG R).getD 0 []) c) l=M:=⟨_,rfl⟩
  rw [hM] at an bh aq ⊢;dsimp only [aK,aJ];refine aB 5 rfl<|aD kh5<|aS fun kh6=>aG fun kh7=>aB 2 rfl<|aD kh7<|dX rfl aN<|bV kh6<|aG fun kh8=>f_Q (aO (vs:=[_,_]) Tryz.isAgg24 Tryz.sizeOf24 rfl rfl ⟨(rdA rfl),(rdA rfl),trivial⟩) ?_
  refine aB 1 rfl ?_;refine f_S (aV Tryz.call120 rfl (fun w_ F=>Weights_spec n A l cap AM M M.length w_ (hr.up0 F) hok aa.g (eS (an.seen F)) aq aA) ?_);rintro _ _ ⟨AW,cW,mW,rfl,rfl,bg⟩;dsimp only [aK,aJ];refine aB 5 rfl<|aD kh8<|aS fun kh9=>aG fun kh10=>aB 2 rfl<|aD kh10<|dX rfl aN<|bV kh9<|aG fun kh11=>f_Q (aO (vs:=[_,_]) Tryz.isAgg24 Tryz.sizeOf24 rfl rfl ⟨(rdA rfl),(rdA rfl),trivial⟩) ?_
  refine f_Q (aO (vs:=[_,_]) Tryz.isAgg34 Tryz.sizeOf34 rfl rfl ⟨(rdA rfl),(rdA rfl),trivial⟩)<|aB 3 rfl ?_
  refine f_S (aV Tryz.call121 rfl (fun w_ F=>qLeaf_spec n A l cap Ab bs cb Ac R cc c ep AW M.length cW w_ (hG.up0 F) ao he (by rw [hM];exact eS (bg.seen F)) (by rw [hM])) ?_);rintro _ _ ⟨D,A2,c2,m2,rfl,rfl,bi,hD⟩;dsimp only [aK,aJ];refine aB 2 rfl<|f_Z (bP Tryz.sizeOf138 rfl rfl rfl rfl cF (gQ ⟨1,c,ep,A2,D,c2⟩) rfl ?_)
  refine aB 1 rfl<|aD kh11<|aY<|fA<|cV ?_
  exact gW (vs:=gQ ⟨1,c,ep,A2,D,c2⟩) [m2] Tryz.results73 rfl Tryz.isAgg138 Tryz.sizeOf138 rfl ⟨(rdA rfl),(rdA rfl),(rdA rfl),(rdA rfl),trivial⟩ rfl aC ⟨⟨1,c,ep,A2,D,c2⟩,m2,rfl,rfl,bi,⟨aN,rfl,⟨he.1,Int.le_refl _⟩,hD⟩⟩
 ·refine aG fun kh12=>aB 2 rfl<|aD kh12<|aX rfl (fun c59=>?_) (fun c59=>?_)
  ·obtain ⟨U,rfl,ap,J⟩:=h2 c59
   obtain ⟨n',k',j0,cd,_,bL,bw,b2,b4⟩:=j7 ar
   obtain rfl:n=n' :=aA
   obtain rfl:k' =U+1:=aA
   obtain ⟨bu,aw⟩:=bw_zero ar aA
   have b5:=aa.rowlen (k:=U+1) bw
   have az:=aa.rowlen (k:=U) aA
   have bv:=aa.right (k:=U) aA
   have a1:1≤n:=aA
   have ad:=ch_kids (c:=c) (q:=q) aA b5
   have bh:=kX (btP ((bG R).getD (U+1) []) ((bG R).getD U []) c) l
   have aq:rD l (gF (btP ((bG R).getD (U+1) []) ((bG R).getD U []) c) l):=mV _ _
   obtain ⟨arcs,ha⟩:∃ arcs,gF (btP ((bG R).getD (U+1) []) ((bG R).getD U []) c) l=arcs:=⟨_,rfl⟩
   rw [ha] at bh aq;obtain ⟨kids,au⟩:∃ kids,chL (bG R) q c=kids:=⟨_,rfl⟩
   have ci:kids.length≤1024:=by
     rw [← au];unfold chL
     refine Nat.le_trans (kI _) ?_;rw [e6,lowL_len,show q.toNat - 1=U+1 by omega];refine Nat.le_trans (pL _ _ _) ?_;omega
   rw [au] at ad;obtain ⟨bo,oo,rfl,bf,bc⟩:=hO.o (fX ap)
   have X:=hO.rows _ (List.getElem_mem ap)
   have Z:=hO.mats _ (List.getElem_mem ap)
   rw [lZ ap] at J;obtain ⟨r,am⟩:∃ r,O[U]=r:=⟨_,rfl⟩
   rw [am] at X Z J;obtain ⟨Ar,row,cr⟩:=r
   dsimp only at X Z J;obtain ⟨X,_⟩:=X
   have bD:=(kid_m (S:=fun _=>True) (w:=w) a1 ad az bv J (fun m hm=>fun hne=>by obtain ⟨b,o,e,_,h⟩:=Z m hm hne;exact ⟨b,o,e,trivial,h⟩)).2
   refine aG fun kh13=>f_Q (aO (vs:=[_,_]) Tryz.isAgg24 Tryz.sizeOf24 rfl rfl ⟨(rdA rfl),(rdA rfl),trivial⟩)<|f_Q (aO (vs:=[_,_]) Tryz.isAgg34 Tryz.sizeOf34 rfl rfl ⟨(rdA rfl),(rdA rfl),trivial⟩)<|aB 2 rfl ?_
   refine f_S (aV Tryz.call122 rfl (fun w_ F=>CBetween_spec (n:Int) A l cap Ab bs cb Ac R cc q c w_ (hr.up0 F) hl hN hok (hn.up0 F)) ?_);rintro _ _ ⟨M,AM,cM,mM,rfl,rfl,an,_,ba⟩;obtain rfl:M=arcs:=by rw [ba bu,show q.toNat - 1=U+1 by omega,show q.toNat - 2=U by omega,ha]
   rw [bu];dsimp only [aK,aJ];refine aB 5 rfl<|aD kh13<|aS fun kh14=>aG fun kh15=>aB 2 rfl<|aD kh15<|dX rfl aN<|bV kh14<|aG fun kh16=>f_Q (aO (vs:=[_,_]) Tryz.isAgg24 Tryz.sizeOf24 rfl rfl ⟨(rdA rfl),(rdA rfl),trivial⟩) ?_
   refine aB 1 rfl ?_;refine f_S (aV Tryz.call120 rfl (fun w_ F=>Weights_spec n A l cap AM M M.length w_ (hr.up0 F) hok aa.g (eS (an.seen F)) aq aA) ?_);rintro _ _ ⟨AW,cW,mW,rfl,rfl,bg⟩;dsimp only [aK,aJ];refine aB 5 rfl<|aD kh16<|aS fun kh17=>aG fun kh18=>aB 2 rfl<|aD kh18<|dX rfl aN<|bV kh17<|aG fun kh19=>f_Q (aO (vs:=[_,_]) Tryz.isAgg24 Tryz.sizeOf24 rfl rfl ⟨(rdA rfl),(rdA rfl),trivial⟩) ?_
   refine f_Q (aO (vs:=[_,_]) Tryz.isAgg34 Tryz.sizeOf34 rfl rfl ⟨(rdA rfl),(rdA rfl),trivial⟩)<|aB 2 rfl ?_
   refine f_S (aV Tryz.call123 rfl (fun w_ F=>NChildren_spec (n:Int) A l cap Ab bs cb Ac R cc q c w_ (hr.up0 F) hl hN hok (hn.up0 F)) ?_);rintro _ _ ⟨K',AK,cK,mK,rfl,rfl,bY,_,ce⟩;obtain rfl:K' =kids:=(ce aw).trans au
   rw [aw];dsimp only [aK,aJ];refine aB 5 rfl<|aD kh19<|aS fun kh20=>aG fun kh21=>aB 2 rfl<|aD kh21<|dX rfl aN<|bV kh20<|aG fun kh22=>aB 1 rfl ?_
   refine aD kh22<|aS fun kh23=>aG fun bB=>aB 1 rfl<|dU bX rfl<|aB 1 rfl<|aD bB<|aR ?_
   refine dA (α:=Nat×Value×Seg) [2,3,4,5,7,8,14,21,95,96] (fun ⟨i,ov,om⟩=>[(97,.int .i64 (i:Int)),(23,ov)]) (fun ⟨i,ov,om⟩=>[om,mK,mW,[(b7,blk [.int .i64 (n:Int),.slice A l.length cap] 24)],[(b8,blk [.slice Ab bs.length cb,.slice Ac R.length cc] 34)],[(b3,blk [.int .i64 0,.int .i64 0,.int .i64 0,.slice none 0 0] 138)]]) (fun ⟨i,ov,om⟩=>i≤K'.length∧Own 138 4 ov (oC row (K'.take i)).length ((oC row (K'.take i)).flatMap gQ) om) (fun ⟨i,ov,om⟩=>K'.length - i) (0,.slice none 0 0,[]) ?_ ?_ ?_ ?_
   ·exact aF
   ·exact aC
   ·exact ⟨Nat.zero_le _,Own.nil _ _⟩
   ·rintro ⟨i,ov,om⟩ ⟨ck,av⟩;refine aG fun kh25=>aB 1 rfl<|aD kh25<|aS fun kh26=>aX rfl (fun bR=>?_) (fun bR=>?_)
    ·have hi:i<K'.length:=aA
     obtain ⟨x,hx,Y⟩:=bD _ (List.getElem_mem hi)
     obtain ⟨br,or,rfl,a2,bj⟩:=X (eX gQ i9 aA Y)
     obtain ⟨bK,cu,rfl,rfl⟩:=bY.at_ aA
     have bW:=kidsM_next hi Y hx
     have bk:=kidsM_len row (K'.take i)
     rw [List.length_take] at bk;refine bV kh26<|aS fun kh27=>aR<|aG fun kh28=>f_Q (aL bX rfl rfl (i))<|f_Q (aH Tryz.isAgg3 rfl (rdA (v:= .int .i64 (x:Int)) (eF (by rw [eG hi,hx])))) ?_
     refine aB 1 rfl<|aD kh28<|aI<|aB 3 rfl<|f_Q (kM rfl rfl _ (Eq.trans (d7 aA) (show _=(U:Int) by omega))) ?_
     refine f_Q (aL sl53 rfl rfl (oo + U)) <| f_Q (aH Tryz.isAgg141 rfl (show Rd _ _ _ _ _ (.slice (some ⟨br, or, none⟩) row.length cr) from (show Rd _ _ _ _ _ (mrV (some ⟨br, or, none⟩, row, cr)) by rw [← am]; exact d3 (enc := mrV) bf bc ap))) ?_;refine aB 1 rfl <| f_Q (aL sl141 rfl rfl (or + x * 4)) <| f_Q (aO (vs := gQ (row[x]'Y)) Tryz.isAgg138 Tryz.sizeOf138 rfl rfl (f8 i9 a2 bj Y)) <| f_S (bQ el141 aA rfl rfl rfl fun b110 => ?_)
     refine f_S (dE el141 rfl rfl av (ys := (gQ (row[x]'Y))) rdsBlk rfl (mx_one _) aA aA fun bp bt bC => ?_);refine aB 1 rfl <| aZ <| dF <| bO kh27 <| aI <| f_Q (a8 rfl rfl) <| aB 1 rfl <| aZ ?_
     refine cS (a6 (i+1,bp,bt) (by first|omega|(dsimp only;omega)|(simp;omega)) ⟨aA,by rw [bW,← mx_len1];exact bC⟩ ?_ ?_ ?_)
     ·exact aF
     ·exact aF
     ·exact aC
    ·obtain rfl:i=K'.length:=aA
     rw [List.take_length] at av;obtain ⟨Al,b6,rfl,cg⟩:=av.val
     have bk:=kidsM_len row K'
     refine cN<|cO<|cO<|eC<|bO kh23<|aG fun kh29=>f_Q (aO (vs:=[_,_]) Tryz.isAgg24 Tryz.sizeOf24 rfl rfl ⟨(rdA rfl),(rdA rfl),trivial⟩)<|f_Q (aO (vs:=[_,_]) Tryz.isAgg34 Tryz.sizeOf34 rfl rfl ⟨(rdA rfl),(rdA rfl),trivial⟩)<|aB 5 rfl ?_
     refine f_S (aV Tryz.call124 rfl (fun w_ F=>Up_spec n A l cap Ab bs cb Ac R cc q c ep U AW M.length cW Al (oC row K') b6 w_ (hG.up0 F) aA ar he (by rw [ha];exact eS (bg.seen F)) (by rw [ha]) (by rw [au,show q - 1=(U:Int)+1 by omega];exact (kid_m a1 ad az bv J (fun m hm=>(Z m hm).up0 F)).1) (eS (av.seen F))) ?_);rintro _ _ ⟨D,A2,c2,m2,rfl,rfl,bi,hD⟩;dsimp only [aK,aJ];refine aB 2 rfl<|f_Z (bP Tryz.sizeOf138 rfl rfl rfl rfl cF (gQ ⟨q,c,ep,A2,D,c2⟩) rfl ?_)
     refine aB 1 rfl<|aD kh29<|aY<|fA<|cV ?_
     exact gW (vs:=gQ ⟨q,c,ep,A2,D,c2⟩) [m2] Tryz.results73 rfl Tryz.isAgg138 Tryz.sizeOf138 rfl ⟨(rdA rfl),(rdA rfl),(rdA rfl),(rdA rfl),trivial⟩ rfl aC ⟨⟨q,c,ep,A2,D,c2⟩,m2,rfl,rfl,bi,⟨hq,rfl,⟨he.1,Int.le_refl _⟩,hD⟩⟩
  ·obtain ⟨al,x,ah,ak⟩:=h0 c28 c59
   obtain ⟨bo,oo,rfl,bf,bc⟩:=hO.o (fX al)
   have X:=hO.rows _ (List.getElem_mem al)
   have Z:=hO.mats _ (List.getElem_mem al)
   rw [lZ al] at ah;obtain ⟨r,am⟩:∃ r,O[k]=r:=⟨_,rfl⟩
   rw [am] at X Z ah;obtain ⟨Ar,row,cr⟩:=r
   dsimp only at X Z ah;obtain ⟨X,_⟩:=X
   obtain ⟨n',k',j0,cd,_,bL,bw,b2,b4⟩:=j7 ar
   obtain ⟨Y,bq⟩:=List.getElem?_eq_some_iff.1 ah
   have be:=Z x (bq▸List.getElem_mem Y)
   obtain ⟨br,or,rfl,a2,bj⟩:=X (eX gQ i9 aA Y)
   have cq:c.toNat=j0:=aA
   obtain ⟨ab,ae,ac,xA,xD,ag⟩:=x
   dsimp only at be
   have cn:xD.length≤268435456:=by
     have h1:=pY ((bG R).getD k []) c l
     have h2:=ak.mat.len
     dsimp only at h2;rw [h2];exact Nat.le_trans (Nat.mul_le_mul (show _≤16384 by omega) (show _≤16384 by omega)) (by decide)
   refine dY<|dF<|bO kh2<|aG fun kh30=>aB 2 rfl<|f_Q (kM rfl rfl _ (Eq.trans (d7 aA) (show _=(k:Int) by omega))) ?_
   refine f_Q (aL sl53 rfl rfl (oo+k))<|f_Q (aH Tryz.isAgg141 rfl (show Rd _ _ _ _ _ (.slice (some ⟨br,or,none⟩) row.length cr) from (show Rd _ _ _ _ _ (mrV (some ⟨br,or,none⟩,row,cr)) by rw [← am];exact d3 (enc:=mrV) bf bc al))) ?_;refine aB 1 rfl<|f_Q (aL sl141 rfl rfl (or+c.toNat*4))<|f_Q (aO (vs:=[.int .i64 ab,.int .i64 ae,.int .i64 ac,.slice xA xD.length ag]) Tryz.isAgg138 Tryz.sizeOf138 rfl rfl (show Rds _ _ _ _ _ (gQ ⟨ab,ae,ac,xA,xD,ag⟩) by rw [← bq];exact f8 i9 a2 bj Y)) ?_
   refine f_S (cQ Tryz.zeroValue138 rfl fun cp=>?_);refine f_Z (bP Tryz.sizeOf138 rfl rfl rfl rfl cF [.int .i64 ab,.int .i64 ae,.int .i64 ac,.slice xA xD.length ag] rfl ?_);refine aD kh30<|aG fun kh31=>cL k4 rfl<|cX Tryz.isAgg41 rfl (rdA rfl) ?_
   refine f_S (aV Tryz.call125 rfl (fun w_ F=>CloneD_spec xA xD.length (fH xD) ag w_ (be.up0 F) (ro_none be) (by rw [iE];omega) (u64s_one _) aA) ?_);rintro cj _ ⟨ax,rfl,ay⟩;obtain ⟨aj,ai,rfl,b1⟩:=ay.val
   dsimp only [aK,aJ];refine cL k4 rfl<|f_Z (bU Tryz.sizeOf41 rfl rfl rfl rfl (Nat.le_refl _) [.int .i64 ab,.int .i64 ae,.int .i64 ac,.slice aj xD.length ai] rfl ?_)
   refine aD kh31<|aG fun kh32=>f_Q (aO (vs:=[_,_,_,_]) Tryz.isAgg138 Tryz.sizeOf138 rfl rfl ⟨(rdA rfl),(rdA rfl),(rdA rfl),(rdA rfl),trivial⟩)<|f_Z (bP Tryz.sizeOf138 rfl rfl rfl rfl cF [.int .i64 ab,.int .i64 ae,.int .i64 ac,.slice aj xD.length ai] rfl ?_)
   refine aB 1 rfl<|aD kh32<|aY ?_
   exact gW (vs:=gQ ⟨ab,ae,ac,aj,xD,ai⟩) [ax] Tryz.results73 rfl Tryz.isAgg138 Tryz.sizeOf138 rfl ⟨(rdA rfl),(rdA rfl),(rdA rfl),(rdA rfl),trivial⟩ rfl aC ⟨⟨ab,ae,ac,aj,xD,ai⟩,ax,rfl,rfl,ay,⟨ak.lv,ak.cl,ak.ep,ak.mat⟩⟩

def eQ (e:List Arc) (i:Nat):Arc:=e.getD i ⟨0,0,0⟩
def dK (f:List Int) (i:Nat):Int:=f.getD i 0
theorem pZ {e:List Arc} {i:Nat} (h:i<e.length):eQ e i=e[i]:=by simp [eQ,List.getD_eq_getElem?_getD,h]
theorem flAt_eq {f:List Int} {i:Nat} (h:i<f.length):dK f i=f[i]:=by simp [dK,List.getD_eq_getElem?_getD,h]
def dP (e:List Arc) (k:Nat):Nat:=if k % 2=0 then (eQ e (k / 2)).src.toNat else (eQ e (k / 2)).dst.toNat
def kto (e:List Arc) (k:Nat):Nat:=if k % 2=0 then (eQ e (k / 2)).dst.toNat else (eQ e (k / 2)).src.toNat
def fL (e:List Arc) (f:List Int) (k:Nat):Int:=if k % 2=0 then (eQ e (k / 2)).wt - dK f (k / 2) else dK f (k / 2)
def net:List Arc→List Int→Nat→Int
 |x::e,y::f,v=>(if x.src.toNat=v then y else 0) - (if x.dst.toNat=v then y else 0)+net e f v
 |_,_,_=>0
def cross (A:Nat→Bool):List Arc→List Int→Int
 |x::e,y::f=>(if A x.src.toNat then y else 0) - (if A x.dst.toNat then y else 0)+cross A e f
 |_,_=>0
def capA (A:Nat→Bool):List Arc→Int
 |x::e=>(if A x.src.toNat&& !A x.dst.toNat then x.wt else 0)+capA A e
 |[]=>0
def i7 (g:Nat→Int):Nat→Int
 |0=>0
 |n+1=>i7 g n+g n
theorem sumTo_add (g h:Nat→Int):∀ n,i7 (fun v=>g v+h v) n=i7 g n+i7 h n
 |0=>rfl
 |n+1=>by simp only [i7];rw [sumTo_add g h n];omega
theorem sumTo_sub (g h:Nat→Int):∀ n,i7 (fun v=>g v - h v) n=i7 g n - i7 h n
 |0=>rfl
 |n+1=>by simp only [i7];rw [sumTo_sub g h n];omega
theorem sumTo_zero:∀ n,i7 (fun _=>0) n=0
 |0=>rfl
 |n+1=>by simp only [i7];rw [sumTo_zero n];rfl
theorem sumTo_congr {g h:Nat→Int}:∀ {n},(∀ v,v<n→g v=h v)→i7 g n=i7 h n
 |0,_=>rfl
 |n+1,H=>by simp only [i7];rw [sumTo_congr (n:=n) fun v hv=>H v aA,H n aA]
theorem oZ (a:Nat) (y:Int):∀ n,i7 (fun v=>if a=v then y else 0) n=if a<n then y else 0
 |0=>by simp [i7]
 |n+1=>by
  simp only [i7];rw [oZ a y n]
  by_cases h:a=n
  ·subst h;simp
  ·rw [if_neg h];by_cases h2:a<n
   ·rw [if_pos h2,if_pos aA];omega
   ·rw [if_neg h2,if_neg aA];omega
theorem sum_side (A:Nat→Bool) (n:Nat):∀ (e:List Arc) (f:List Int),(∀ x∈e,x.src.toNat<n∧x.dst.toNat<n)→i7 (fun v=>if A v then net e f v else 0) n=cross A e f
 |[],f,_=>by
  have:(fun v=>if A v then net [] f v else 0)=fun _=>(0:Int):=by funext v;simp [net]
  rw [this,sumTo_zero];simp [cross]
 |x::e,[],_=>by
  have:(fun v=>if A v then net (x::e) [] v else 0)=fun _=>(0:Int):=by funext v;simp [net]
  rw [this,sumTo_zero];simp [cross]
 |x::e,y::f,h=>by
  have F:=h x (List.mem_cons_self ..)
  have ih:=sum_side A n e f fun z hz=>h z (List.mem_cons_of_mem _ hz)
  have e1:(fun v=>if A v then net (x::e) (y::f) v else 0)=fun v=>((if x.src.toNat=v then (if A x.src.toNat then y else 0) else 0) - (if x.dst.toNat=v then (if A x.dst.toNat then y else 0) else 0))+(if A v then net e f v else 0):=by
   funext v
   simp only [net]
   by_cases hs:x.src.toNat=v<;>by_cases hd:x.dst.toNat=v<;>cases hA:A v<;>simp_all
  rw [e1,sumTo_add,sumTo_sub,oZ,oZ,if_pos F.1,if_pos F.2,ih];simp only [cross]
def o6 (A:Nat→Bool):List Arc→List Int→Int
 |x::e,y::f=>(if A x.src.toNat then (if A x.dst.toNat then 0 else x.wt - y) else (if A x.dst.toNat then y else 0))+o6 A e f
 |_,_=>0
theorem slack_eq (A:Nat→Bool):∀ (e:List Arc) (f:List Int),e.length=f.length→capA A e - cross A e f=o6 A e f
 |[],f,h=>by simp [capA,cross,o6]
 |x::e,[],h=>by simp at h
 |x::e,y::f,h=>by
  have ih:=slack_eq A e f (by simpa using h)
  simp only [capA,cross,o6];cases A x.src.toNat<;>cases A x.dst.toNat<;>simp<;>omega
structure Fits (e:List Arc) (f:List Int):Prop where
 len:f.length=e.length
 rng:∀ i,i<e.length→0≤dK f i∧dK f i≤(eQ e i).wt
theorem Fits.tail {x:Arc} {e:List Arc} {y:Int} {f:List Int} (h:Fits (x::e) (y::f)):Fits e f:=
 ⟨by simpa using h.len,fun i hi=>by have:=h.rng (i+1) (by simpa using hi);simpa [dK,eQ] using this⟩
theorem Fits.head {x:Arc} {e:List Arc} {y:Int} {f:List Int} (h:Fits (x::e) (y::f)):0≤y∧y≤x.wt:=by
 have:=h.rng 0 aN;simpa [dK,eQ] using this
theorem slack_nn (A:Nat→Bool):∀ (e:List Arc) (f:List Int),Fits e f→0≤o6 A e f
 |[],f,_=>by simp [o6]
 |x::e,[],_=>by simp [o6]
 |x::e,y::f,h=>by
  have ih:=slack_nn A e f h.tail
  have:=h.head
  simp only [o6]
  split<;>split<;>omega
def Shut (e:List Arc) (f:List Int) (A:Nat→Bool):Prop:=∀ k,k<2*e.length→0<fL e f k→A (dP e k)=true→A (kto e k)=true
theorem slack_zero (A:Nat→Bool):∀ (e:List Arc) (f:List Int),Fits e f→(o6 A e f=0↔∀ i,i<e.length→(A (eQ e i).src.toNat=true→A (eQ e i).dst.toNat=false→dK f i=(eQ e i).wt)∧(A (eQ e i).src.toNat=false→A (eQ e i).dst.toNat=true→dK f i=0))
 |[],f,_=>by simp [o6]
 |x::e,[],h=>by have:=h.len;simp at this
 |x::e,y::f,h=>by
  have ih:=slack_zero A e f h.tail
  have U:=slack_nn A e f h.tail
  have hh:=h.head
  constructor
  ·intro hz i hi
   simp only [o6] at hz
   cases i with
   |zero=>
    have F:eQ (x::e) 0=x:=by simp [eQ]
    have J:dK (y::f) 0=y:=by simp [dK]
    rw [F,J];constructor
    ·intro h1 h2;rw [h1,h2] at hz;simp at hz;omega
    ·intro h1 h2;rw [h1,h2] at hz;simp at hz;omega
   |succ i=>
    have F:eQ (x::e) (i+1)=eQ e i:=by simp [eQ]
    have J:dK (y::f) (i+1)=dK f i:=by simp [dK]
    rw [F,J];refine ih.1 ?_ i (by simpa using hi);cases h1:A x.src.toNat<;>cases h2:A x.dst.toNat<;>rw [h1,h2] at hz<;>simp at hz<;>omega
  ·intro H
   have O:=H 0 aN
   have F:eQ (x::e) 0=x:=by simp [eQ]
   have J:dK (y::f) 0=y:=by simp [dK]
   rw [F,J] at O
   have hr:=ih.2 fun i hi=>by
    have:=H (i+1) (by simpa using hi)
    simpa [eQ,dK] using this
   simp only [o6];cases h1:A x.src.toNat<;>cases h2:A x.dst.toNat<;>simp [h1,h2] at O ⊢<;>omega
theorem slack_shut {A:Nat→Bool} {e:List Arc} {f:List Int} (h:Fits e f):o6 A e f=0↔Shut e f A:=by
 rw [slack_zero A e f h];constructor
 ·intro H k hk hl hA
  have hi:=H (k / 2) aA
  have hr:=h.rng (k / 2) aA
  unfold fL at hl;unfold dP at hA;unfold kto
  split
  ·rename_i h2
   rw [if_pos h2] at hl hA
   cases hb:A (eQ e (k / 2)).dst.toNat with
   |true=>rfl
   |false=>have:=hi.1 hA hb;omega
  ·rename_i h2
   rw [if_neg h2] at hl hA
   cases hb:A (eQ e (k / 2)).src.toNat with
   |true=>rfl
   |false=>have:=hi.2 hb hA;omega
 ·intro H i hi
  have hr:=h.rng i hi
  have F:=H (2*i) aA
  have h1:=H (2*i+1) aA
  unfold fL dP kto at F h1
  rw [if_pos aA,if_pos aA,if_pos aA,show 2*i / 2=i by omega] at F;rw [if_neg aA,if_neg aA,if_neg aA,show (2*i+1) / 2=i by omega] at h1;constructor
  ·intro a b
   rcases Int.lt_or_le 0 ((eQ e i).wt - dK f i) with hlt|J
   ·rw [F hlt a] at b;cases b
   ·omega
  ·intro a b
   rcases Int.lt_or_le 0 (dK f i) with hlt|J
   ·rw [h1 hlt b] at a;cases a
   ·omega
structure Flow (n:Nat) (e:List Arc) (s t:Nat) (f:List Int) (V:Int):Prop where
 fits:Fits e f
 cons:∀ v,v<n→net e f v=(if s=v then V else 0) - (if t=v then V else 0)
def mO (n:Nat) (e:List Arc):Prop:=∀ x∈e,x.src.toNat<n∧x.dst.toNat<n
theorem Flow.side {n:Nat} {e:List Arc} {s t:Nat} {f:List Int} {V:Int} (h:Flow n e s t f V) (he:mO n e) {A:Nat→Bool} (hs:s<n) (hA:A s=true) (hB:A t=false):cross A e f=V:=by
 rw [← sum_side A n e f he]
 have:i7 (fun v=>if A v then net e f v else 0) n=i7 (fun v=>if s=v then V else 0) n:=sumTo_congr fun v hv=>by
  rw [h.cons v hv]
  by_cases h1:s=v
  ·subst h1
   have:t≠s:=fun e=>by subst e;rw [hA] at hB;cases hB
   simp [hA,this]
  ·by_cases h2:t=v
   ·subst h2;simp [hB,h1]
   ·simp [h1,h2]
 rw [this,oZ,if_pos hs]
theorem Flow.le_cut {n:Nat} {e:List Arc} {s t:Nat} {f:List Int} {V:Int} (h:Flow n e s t f V) (he:mO n e) {A:Nat→Bool} (hs:s<n) (hA:A s=true) (hB:A t=false):V≤capA A e:=by
 have h1:=h.side he hs hA hB
 have h2:=slack_eq A e f h.fits.len.symm
 have h3:=slack_nn A e f h.fits
 omega
theorem Flow.shut {n:Nat} {e:List Arc} {s t:Nat} {f:List Int} {V:Int} (h:Flow n e s t f V) (he:mO n e) {A:Nat→Bool} (hs:s<n) (hA:A s=true) (hB:A t=false):V=capA A e↔Shut e f A:=by
 have h1:=h.side he hs hA hB
 have h2:=slack_eq A e f h.fits.len.symm
 rw [← slack_shut h.fits];omega
inductive Reach (e:List Arc) (f:List Int) (s:Nat):Nat→Prop
 |refl:Reach e f s s
 |step {k:Nat} (h:Reach e f s (dP e k)) (hk:k<2*e.length) (hl:0<fL e f k):Reach e f s (kto e k)
theorem Reach.within {e:List Arc} {f:List Int} {s v:Nat} (h:Reach e f s v) {A:Nat→Bool} (hs:A s=true) (hA:Shut e f A):A v=true:=by
 induction h with
 |refl=>exact hs
 |step _ hk hl ih=>exact hA _ hk hl ih
structure Side (n:Nat) (e:List Arc) (s t:Nat) (f:List Int) (A:Nat→Bool):Prop where
 src:A s=true
 dst:A t=false
 shut:Shut e f A
 reach:∀ v,v<n→A v=true→Reach e f s v
theorem Side.same {n:Nat} {e:List Arc} {s t:Nat} {f g:List Int} {V W:Int} {A B:Nat→Bool} (he:mO n e) (hs:s<n) (hf:Flow n e s t f V) (hg:Flow n e s t g W) (hA:Side n e s t f A) (hB:Side n e s t g B):V=W∧∀ v,v<n→A v=B v:=by
 have O:=(hf.shut he hs hA.src hA.dst).2 hA.shut
 have Y:=(hg.shut he hs hB.src hB.dst).2 hB.shut
 have U:=hf.le_cut he hs hB.src hB.dst
 have X:=hg.le_cut he hs hA.src hA.dst
 have e1:V=W:=aA
 have F:=(hf.shut he hs hB.src hB.dst).1 aA
 have J:=(hg.shut he hs hA.src hA.dst).1 aA
 refine ⟨e1,fun v hv=>?_⟩
 cases h1:A v with
 |true=>exact ((hA.reach v hv h1).within hB.src F).symm
 |false=>
  cases h2:B v with
  |true=>rw [(hB.reach v hv h2).within hA.src J] at h1;cases h1
  |false=>rfl
theorem Side.least {n:Nat} {e:List Arc} {s t:Nat} {f:List Int} {V:Int} {A B:Nat→Bool} (he:mO n e) (hs:s<n) (hf:Flow n e s t f V) (hA:Side n e s t f A) (h1:B s=true) (h2:B t=false) {u:Nat} (O:u<n) (J:A u=true) (F:B u=false):V<capA B e:=by
 have:=hf.le_cut he hs h1 h2
 rcases Int.lt_or_le V (capA B e) with h|h
 ·exact h
 ·have hB:=(hf.shut he hs h1 h2).1 aA
  rw [(hA.reach u O J).within h1 hB] at F;cases F
def kY (f:List Int) (k:Nat) (d:Int):List Int:=f.set (k / 2) (dK f (k / 2)+(if k % 2=0 then d else -d))
theorem pT (f:List Int) (k:Nat) (d:Int):(kY f k d).length=f.length:=by simp [kY]
theorem flAt_push {f:List Int} {k:Nat} {d:Int} (hk:k / 2<f.length) (i:Nat):dK (kY f k d) i=if k / 2=i then dK f (k / 2)+(if k % 2=0 then d else -d) else dK f i:=by
 unfold kY
 unfold dK
 rw [List.getD_eq_getElem?_getD,List.getElem?_set]
 by_cases h:k / 2=i
 ·rw [if_pos h,if_pos hk,if_pos h];rfl
 ·rw [if_neg h,if_neg h,List.getD_eq_getElem?_getD]
theorem net_set:∀ {e:List Arc} {f:List Int} {i:Nat} (d:Int) (v:Nat),e.length=f.length→i<f.length→
  net e (f.set i (dK f i+d)) v=net e f v+((if (eQ e i).src.toNat=v then d else 0) - (if (eQ e i).dst.toNat=v then d else 0))
 |[],[],_,_,_,_,h=>by simp at h
 |x::e,[],_,_,_,h,_=>by simp at h
 |[],y::f,_,_,_,h,_=>by simp at h
 |x::e,y::f,0,d,v,h,_=>by
  have F:eQ (x::e) 0=x:=by simp [eQ]
  have J:dK (y::f) 0=y:=by simp [dK]
  rw [F,J];simp only [List.set_cons_zero,net]
  split<;>split<;>omega
 |x::e,y::f,i+1,d,v,h,hi=>by
  have F:eQ (x::e) (i+1)=eQ e i:=by simp [eQ]
  have J:dK (y::f) (i+1)=dK f i:=by simp [dK]
  rw [F,J];have:=net_set (e:=e) (f:=f) (i:=i) d v (by simpa using h) (by simpa using hi)
  simp only [List.set_cons_succ,net,this];omega
theorem net_push {e:List Arc} {f:List Int} {k:Nat} (d:Int) (v:Nat) (h:e.length=f.length) (hk:k<2*e.length):net e (kY f k d) v=net e f v+((if dP e k=v then d else 0) - (if kto e k=v then d else 0)):=by
 unfold kY
 rw [net_set _ _ h aA]
 unfold dP kto
 by_cases h2:k % 2=0
 ·simp only [h2,if_true]
 ·simp only [h2,if_false];split<;>split<;>omega
def Way (e:List Arc):Nat→Nat→List Nat→Prop
 |u,t,[]=>u=t
 |u,t,k::r=>k<2*e.length∧dP e k=u∧Way e (kto e k) t r
theorem Way.snoc {e:List Arc}:∀ {W:List Nat} {u v:Nat} {k:Nat},Way e u v W→k<2*e.length→dP e k=v→Way e u (kto e k) (W++[k])
 |[],u,v,k,h,hk,hf=>by have:u=v:=h;subst this;exact ⟨hk,hf,rfl⟩
 |j::r,u,v,k,⟨h1,h2,h3⟩,hk,hf=>⟨h1,h2,Way.snoc h3 hk hf⟩
theorem Way.pop {e:List Arc}:∀ {W:List Nat} {u v:Nat} {k:Nat},Way e u v (W++[k])→k<2*e.length∧kto e k=v∧Way e u (dP e k) W
 |[],u,v,k,⟨h1,h2,h3⟩=>⟨h1,h3,h2.symm⟩
 |j::r,u,v,k,⟨h1,h2,h3⟩=>let ⟨a,b,c⟩:=Way.pop h3;⟨a,b,h1,h2,c⟩
theorem Way.split {e:List Arc}:∀ {W X:List Nat} {u v:Nat},Way e u v (W++X)→∃ m,Way e u m W∧Way e m v X
 |[],X,u,v,h=>⟨u,rfl,h⟩
 |k::r,X,u,v,⟨h1,h2,h3⟩=>let ⟨m,a,b⟩:=Way.split h3;⟨m,⟨h1,h2,a⟩,b⟩
theorem Way.lt {e:List Arc}:∀ {W:List Nat} {u v:Nat},Way e u v W→∀ k,k∈W→k<2*e.length
 |[],_,_,_,k,h=>by simp at h
 |j::r,u,v,⟨h1,_,h3⟩,k,h=>by
  rcases List.mem_cons.1 h with rfl|h
  ·exact h1
  ·exact Way.lt h3 k h
def Up (e:List Arc) (L:List Int) (W:List Nat):Prop:=∀ k,k∈W→dK L (kto e k)=dK L (dP e k)+1
theorem Way.rise {e:List Arc} {L:List Int}:∀ {W:List Nat} {u v:Nat},Way e u v W→Up e L W→∀ k,k∈W→dK L u≤dK L (dP e k)
 |[],_,_,_,_,k,h=>by simp at h
 |j::r,u,v,⟨h1,h2,h3⟩,hU,k,h=>by
  rcases List.mem_cons.1 h with rfl|h
  ·rw [h2];exact Int.le_refl _
  ·have:=Way.rise h3 (fun i hi=>hU i (List.mem_cons_of_mem _ hi)) k h
   have:=hU j (List.mem_cons_self ..)
   rw [h2] at this;omega
theorem half_eq {e:List Arc} {j k:Nat} (h:j / 2=k / 2):j=k∨(dP e j=kto e k∧kto e j=dP e k):=by
 by_cases hm:j % 2=k % 2
 ·left;omega
 ·right
  unfold dP kto
  rw [h]
  by_cases h1:j % 2=0
  ·rw [if_pos h1,if_neg aA,if_pos h1,if_neg aA];exact ⟨rfl,rfl⟩
  ·rw [if_neg h1,if_pos aA,if_neg h1,if_pos aA];exact ⟨rfl,rfl⟩
theorem Way.nodup {e:List Arc} {L:List Int}:∀ {W:List Nat} {u v:Nat},Way e u v W→Up e L W→(W.map (· / 2)).Nodup
 |[],_,_,_,_=>aN
 |j::r,u,v,⟨h1,h2,h3⟩,hU=>by
  rw [List.map_cons,List.nodup_cons];have F:Up e L r:=fun i hi=>hU i (List.mem_cons_of_mem _ hi)
  refine ⟨fun hm=>?_,Way.nodup h3 F⟩;obtain ⟨k,hk,J⟩:=List.mem_map.1 hm
  have a:=Way.rise h3 F k hk
  have b:=hU j (List.mem_cons_self ..)
  have c:=hU k (List.mem_cons_of_mem _ hk)
  rcases half_eq (e:=e) J with rfl|⟨d1,d2⟩
  ·omega
  ·rw [d1,d2] at c;omega
def gE (f:List Int) (W:List Nat) (d:Int):List Int:=W.foldl (fun f k=>kY f k d) f
theorem pushAll_len (W:List Nat) (d:Int):∀ f,(gE f W d).length=f.length:=by
 induction W with
 |nil=>intro f;rfl
 |cons k r ih=>intro f;show (gE (kY f k d) r d).length=_;rw [ih,pT]
theorem pushAll_snoc (f:List Int) (W:List Nat) (k:Nat) (d:Int):gE f (W++[k]) d=kY (gE f W d) k d:=by simp [gE]
theorem net_pushAll {e:List Arc} {d:Int}:∀ {W:List Nat} {f:List Int} {u t:Nat},e.length=f.length→Way e u t W→∀ v,net e (gE f W d) v=net e f v+((if u=v then d else 0) - (if t=v then d else 0))
 |[],f,u,t,h,hw,v=>by have:u=t:=hw;subst this;simp [gE]
 |k::r,f,u,t,h,⟨h1,h2,h3⟩,v=>by
  show net e (gE (kY f k d) r d) v=_
  rw [net_pushAll (by rw [pT];exact h) h3 v,net_push d v h h1,h2];omega
theorem flAt_pushAll {d:Int}:∀ {W:List Nat} {f:List Int} {i:Nat},(∀ k,k∈W→k / 2<f.length)→(∀ k,k∈W→k / 2≠i)→dK (gE f W d) i=dK f i
 |[],f,i,_,_=>rfl
 |k::r,f,i,hl,hn=>by
  show dK (gE (kY f k d) r d) i=_
  rw [flAt_pushAll (fun j hj=>by rw [pT];exact hl j (List.mem_cons_of_mem _ hj)) fun j hj=>hn j (List.mem_cons_of_mem _ hj),flAt_push (hl k (List.mem_cons_self ..)),if_neg (hn k (List.mem_cons_self ..))]
theorem kleft_rng {e:List Arc} {f:List Int} (h:Fits e f) {k:Nat} (hk:k<2*e.length):0≤fL e f k∧fL e f k≤(eQ e (k / 2)).wt:=by
 have:=h.rng (k / 2) aA
 unfold fL;split<;>omega
theorem Fits.push {e:List Arc} {f:List Int} {k:Nat} {d:Int} (h:Fits e f) (hk:k<2*e.length) (F:0≤d) (hd:d≤fL e f k):Fits e (kY f k d):=
 ⟨by rw [pT];exact h.len,fun i hi=>by
  rw [flAt_push (by rw [h.len];omega)];have:=h.rng i hi
  split
  ·rename_i e';subst e'
   unfold fL at hd
   by_cases h2:k % 2=0
   ·rw [if_pos h2] at hd ⊢;omega
   ·rw [if_neg h2] at hd ⊢;omega
  ·exact this⟩
theorem kleft_push {e:List Arc} {f:List Int} {j k:Nat} {d:Int} (hk:k / 2<f.length) (h:j / 2≠k / 2):fL e (kY f k d) j=fL e f j:=by
 have:=flAt_push (d:=d) hk (j / 2)
 rw [if_neg fun h' =>h h'.symm] at this
 unfold fL;rw [this]
theorem fits_pushAll {e:List Arc} {d:Int} (F:0≤d):∀ {W:List Nat} {f:List Int},Fits e f→(W.map (· / 2)).Nodup→(∀ k,k∈W→k<2*e.length∧d≤fL e f k)→Fits e (gE f W d)
 |[],f,h,_,_=>h
 |k::r,f,h,hn,hk=>by
  rw [List.map_cons,List.nodup_cons] at hn;have hkk:=hk k (List.mem_cons_self ..)
  show Fits e (gE (kY f k d) r d)
  exact fits_pushAll F (h.push hkk.1 F hkk.2) hn.2 fun j hj=>⟨(hk j (List.mem_cons_of_mem _ hj)).1,by
   rw [kleft_push (by rw [h.len];omega) fun e' =>hn.1 (e'▸List.mem_map.2 ⟨j,hj,rfl⟩)]
   exact (hk j (List.mem_cons_of_mem _ hj)).2⟩
theorem Flow.push {n:Nat} {e:List Arc} {s t:Nat} {f:List Int} {V d:Int} {W:List Nat} (h:Flow n e s t f V) (F:0≤d) (hw:Way e s t W) (hn:(W.map (· / 2)).Nodup) (hd:∀ k,k∈W→d≤fL e f k):Flow n e s t (gE f W d) (V+d):=
 ⟨fits_pushAll F h.fits hn fun k hk=>⟨hw.lt k hk,hd k hk⟩,fun v hv=>by
  rw [net_pushAll h.fits.len.symm hw v,h.cons v hv]
  split<;>split<;>omega⟩
theorem net_zero:∀ (e:List Arc) (m:Nat) (v:Nat),net e (List.replicate m 0) v=0
 |[],_,_=>by simp [net]
 |x::e,0,_=>by simp [net]
 |x::e,m+1,v=>by simp only [List.replicate_succ,net];rw [net_zero e m v];split<;>split<;>omega
theorem flAt_zero (m i:Nat):dK (List.replicate m 0) i=0:=by
 unfold dK;rw [List.getD_eq_getElem?_getD,List.getElem?_replicate];split<;>rfl
theorem Flow.zero {n:Nat} {e:List Arc} {s t:Nat} (hw:∀ x∈e,0≤x.wt):Flow n e s t (List.replicate e.length 0) 0:=
 ⟨⟨aN,fun i hi=>by rw [flAt_zero,pZ hi];exact ⟨Int.le_refl _,hw _ (List.getElem_mem hi)⟩⟩,fun v _=>by rw [net_zero];simp⟩
def kJ:List Arc→Int
 |x::e=>x.wt+kJ e
 |[]=>0
theorem net_le:∀ (e:List Arc) (f:List Int) (v:Nat),Fits e f→net e f v≤kJ e
 |[],f,v,_=>by simp [net,kJ]
 |x::e,[],v,h=>by have:=h.len;simp at this
 |x::e,y::f,v,h=>by
  have:=net_le e f v h.tail
  have:=h.head
  simp only [net,kJ]
  split<;>split<;>omega
theorem capSum_le (c:Int):∀ (e:List Arc),(∀ x∈e,x.wt≤c)→kJ e≤e.length*c
 |[],_=>by simp [kJ]
 |x::e,h=>by
  have:=capSum_le c e fun y hy=>h y (List.mem_cons_of_mem _ hy)
  have:=h x (List.mem_cons_self ..)
  simp only [kJ,List.length_cons];rw [show ((e.length+1:Nat):Int)*c=e.length*c+c by rw [Int.natCast_add,Int.add_mul];simp];omega
theorem Flow.val_le {n:Nat} {e:List Arc} {s t:Nat} {f:List Int} {V:Int} (h:Flow n e s t f V) (hs:s<n) (F:s≠t):V≤kJ e:=by
 have h1:=h.cons s hs
 rw [if_pos rfl,if_neg (fun e=>F e.symm)] at h1;have:=net_le e f s h.fits
 omega
end Go.Proofs.YthpkelafioikaaaGreat
