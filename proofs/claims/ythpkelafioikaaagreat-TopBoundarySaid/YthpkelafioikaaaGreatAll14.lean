import Derived.Test.YthpkelafioikaaaGreatFlyRun
import Derived.Test.YthpkelafioikaaaGreatAll13
import Derived.Test.YthpkelafioikaaaGreatFlyT
import Derived.Test.YthpkelafioikaaaGreatFlyR
namespace Go.Proofs.YthpkelafioikaaaGreat
open Go Go.RowKit Fly
set_option maxRecDepth 100000
set_option maxHeartbeats 4000000
set_option linter.all false
theorem NestRo.upF {S:Nat→Prop} {w0 w:World} {own fr:List Seg} {J F:Option Addr} {bs:List Int} {R:List Row} (h:NestRo S w0 J bs F R) (hp:Hp S w0 (own++fr).flatten w):NestRo (Fr w own) w J bs F R:=
 ⟨h.b.up hp,h.bl,h.c.up hp,h.cl,fun r hr=>⟨(h.rows r hr).1.up hp,(h.rows r hr).2⟩⟩
theorem NestRo.keepF {S:Nat→Prop} {w0 w' :World} {J F:Option Addr} {bs:List Int} {R:List Row} (h:NestRo S w0 J bs F R) (hlt:∀ b,S b→b<w0.heap.size) (hs:∀ k,S k→w'.heap[k]? =w0.heap[k]?):NestRo (Fr w' []) w' J bs F R:=
 ⟨ro_keep h.b hlt hs,h.bl,ro_keep h.c hlt hs,h.cl,fun r hr=>⟨ro_keep (h.rows r hr).1 hlt hs,(h.rows r hr).2⟩⟩
theorem GN.upF {S:Nat→Prop} {w0 w:World} {own fr:List Seg} {n:Nat} {A:Option Addr} {l:List Arc} {J:Option Addr} {bs:List Int} {F:Option Addr} {R:List Row} (h:GN S w0 n A l J bs F R) (hp:Hp S w0 (own++fr).flatten w):GN (Fr w own) w n A l J bs F R:=
 ⟨h.r.up hp,h.ok,h.ns.upF hp,h.o⟩
theorem OvRo.upF {S:Nat→Prop} {w0 w:World} {own fr:List Seg} {F:Option Addr} {O:List MRow} (h:OvRo S w0 F O) (hp:Hp S w0 (own++fr).flatten w):OvRo (Fr w own) w F O:=
 ⟨h.o.up hp,h.ol,fun r hr=>⟨(h.rows r hr).1.up hp,(h.rows r hr).2⟩,fun r hr m hm=>(h.mats r hr m hm).up hp⟩
theorem TblR.nil (n b:Nat) (c:Bool):TblR n (([]:List Arc).map (trn c)) b [(b,e9 iO [] 0)]:=
 ⟨[],0,List.replicate n (.slice none 0 0),List.replicate n [],aO,LinkR.start _ _⟩
def pQ (L:List (List Int)) (s t K k:Nat) (v:Int):Bool:=decide (((atV L s t K v.toNat:Nat):Int)=(k:Int)+1)
theorem cqK_mem {l:List Arc} {Ls:List (List Int)} {p:Nat→Int→Bool} {J:List (List Mx)} {K:Nat} {a:Arc}:a∈cqK l Ls p J K↔∃ k,k<K∧∃ c,∃ h:c<(J.getD k []).length,p k (fstI (Ls.getD k []) (c:Int))=true∧a∈mxE (bdL (Ls.getD k []) (c:Int) l) (J.getD k [])[c].D (J.getD k [])[c].D.length:=by
 unfold cqK
 rw [List.mem_flatMap];constructor
 ·rintro ⟨k,hk,ha⟩
  unfold cqC at ha
  obtain ⟨c,hc,ha⟩:=List.mem_flatMap.1 ha
  have F:=List.mem_range.1 hc
  split at ha
  ·rename_i hp
   rw [List.getElem?_eq_getElem F,Option.getD_some] at ha;exact ⟨k,List.mem_range.1 hk,c,F,hp,ha⟩
  ·cases ha
 ·rintro ⟨k,hk,c,hc,hp,ha⟩
  refine ⟨k,List.mem_range.2 hk,?_⟩
  unfold cqC
  refine List.mem_flatMap.2 ⟨c,List.mem_range.2 hc,?_⟩;rw [if_pos hp,List.getElem?_eq_getElem hc,Option.getD_some];exact ha
theorem nest_lvs {n K:Nat} {l:List Arc} {bs:List Int} {Ls:List (List Int)} (h:NestOk n l bs Ls) (F:K=bs.length):Lvs n K Ls:=F▸
 ⟨fun k hk=>h.rowlen hk,fun k hk=>by have:=h.within hk aA;rwa [Nat.add_sub_cancel] at this⟩
theorem qy_e {n:Nat} {l:List Arc} {bs:List Int} {Ls:List (List Int)} {ep:Int} {U:List (List Mx)} {s t K:Nat} (hK:K=bs.length) (O:NestOk n l bs Ls) (hok:OvOk l Ls bs.length ep U) (hw:∀ x∈l,0≤x.wt∧x.wt≤4294967295):
  QyE n l Ls s t K (cqK l Ls (pQ Ls s t K) U bs.length++l.filter (qP Ls s t K))∧LkOk n (cqK l Ls (pQ Ls s t K) U bs.length++l.filter (qP Ls s t K)):=by
 subst hK;obtain ⟨_,_,_,hg⟩:=cF O.g
 have Y:∀ x∈l,0≤x.wt:=fun x hx=>(hw x hx).1
 have hM:∀ k,k<bs.length→∀ c (h:c<(U.getD k []).length),MatOk l (Ls.getD k []) (c:Int) (U.getD k [])[c].D:=fun k hk c hc=>by
  obtain ⟨h1,h2⟩:=hok.row k hk
  obtain ⟨x,hx,Z⟩:=h1 c aA
  rw [List.getElem?_eq_getElem hc] at hx;rw [Option.some.inj hx];exact Z.mat
 refine ⟨⟨fun a ha=>?_,fun k v hv aa x y m hx hy hwk hlt=>?_,fun a ha hq=>List.mem_append_right _ (List.mem_filter.2 ⟨ha,hq⟩)⟩,fun a ha=>?_⟩
 ·rcases List.mem_append.1 ha with ha|ha
  ·obtain ⟨k,hk,c,hc,_,ha⟩:=cqK_mem.1 ha
   exact .inl ⟨_,((hM k hk c hc).arc ha).2.2.2⟩
  ·exact .inr (List.mem_filter.1 ha).1
 ·have F:k<bs.length:=by have:=atV_le Ls s t bs.length v;omega
  have hl:=O.rowlen F
  have J:(Ls.getD k []).getD v 0∈Ls.getD k []:=by rw [eJ aA];exact List.getElem_mem _
  have h1:=e7 (O.right F) O.n1.1 _ J
  have h2:=iL J
  have h3:=(hok.row k F).2
  obtain ⟨c,hc⟩:∃ c:Nat,(Ls.getD k []).getD v 0=(c:Int):=⟨((Ls.getD k []).getD v 0).toNat,aA⟩
  obtain ⟨v',hf,ab,he⟩:=fstI_in (L:=Ls.getD k []) (c:=(c:Int)) (hc▸J)
  have X:=atV_same (nest_lvs O rfl) hv aA aa (hc.trans he.symm)
  rw [hc] at hx hy hwk;obtain ⟨a,ha,hb⟩:=(hM k F c aA).over hx hy hwk hlt
  refine ⟨a,List.mem_append_left _ (cqK_mem.2 ⟨k,F,c,aA,?_,ha⟩),hb⟩;rw [hf];unfold pQ;rw [Int.toNat_natCast,X,decide_eq_true_eq];omega
 ·rcases List.mem_append.1 ha with ha|ha
  ·obtain ⟨k,hk,c,hc,_,ha⟩:=cqK_mem.1 ha
   exact (hM k hk c hc).lk hg Y ha
  ·have h1:=(List.mem_filter.1 ha).1
   have h2:=hw a h1
   obtain ⟨i,hi,rfl⟩:=List.mem_iff_getElem.1 h1
   have h3:=hg i hi
   exact ⟨aA,aA,h2.1,by unfold INF;omega⟩
theorem filter_next {p:Arc→Bool} {l:List Arc} {k:Nat} (hk:k<l.length):(l.take (k+1)).filter p=(l.take k).filter p++if p l[k]=true then [l[k]] else []:=by
 rw [List.take_succ_eq_append_getElem hk,List.filter_append]
 by_cases h:p l[k]=true
 ·rw [if_pos h];simp [h]
 ·rw [if_neg h];simp [h]
theorem qP_src {L:List (List Int)} {s t K:Nat} {a:Arc} {u:Nat} (F:a.src.toNat=u) (h:atV L s t K u=0):qP L s t K a=true:=by unfold qP;rw [F,h];rfl
theorem qP_lvl {L:List (List Int)} {s t K:Nat} {a:Arc} {u v:Nat} (F:a.src.toNat=u) (hv:a.dst.toNat=v) (h:atV L s t K u≠atV L s t K v):qP L s t K a=true:=by unfold qP;rw [F,hv,decide_eq_true h,Bool.true_or,Bool.or_true]
theorem qP_cell {L:List (List Int)} {s t K:Nat} {a:Arc} {u v k:Nat} (F:a.src.toNat=u) (hv:a.dst.toNat=v) (hk:atV L s t K u=k+1) (h:atV L s t K u=atV L s t K v):qP L s t K a=decide ((L.getD k []).getD u 0≠(L.getD k []).getD v 0):=by
 unfold qP
 rw [F,hv,decide_eq_false (p:=atV L s t K u=0) aA,decide_eq_false (p:=atV L s t K u≠atV L s t K v) (fun e=>e h),hk,Nat.add_sub_cancel];rfl
theorem Dist1_spec (Z:Option Addr) (bs:List Int) (cb:Nat) (Y:Option Addr) (R:List Row) (cc:Nat) (n s t k v b:Nat) (w:World) (h2:Ro (Fr w []) w (some ⟨b,0,none⟩) [.slice Z bs.length cb,.slice Y R.length cc,.int .i64 (s:Int),.int .i64 (t:Int)]) (hn:NestRo (Fr w []) w Z bs Y R) (hlen:∀ r∈R,r.2.1.length=n) (O:R.length≤5) (hs:s<n) (ht:t<n) (hv:v<n):
    Meets Tryz.prog 49 ([.int .i64 ((k:Int)+1),.int .i64 (v:Int)]++[.pointer (some ⟨b,0,none⟩)]) w [] (fun x m=>x= .bool (pQ (bJ R) s t R.length k (v:Int))∧m=[]):=by
 obtain ⟨X,ab,aa,J,F⟩:=h2 aO
 obtain ⟨rfl,rfl⟩:b=X∧0=ab:=by cases aa;exact ⟨rfl,rfl⟩
 refine bG Tryz.func49 rfl Tryz.ntmps49 rfl Owns.nil<|aG fun kh1=>aB 1 rfl<|aD kh1<|aG fun kh2=>f_Q (aQ (vs:=[_,_,_,_]) Tryz.isAgg101 Tryz.sizeOf101 rfl rfl ⟨(rdS J (F 0 _ rfl)),(rdS J (F 1 _ rfl)),(rdS J (F 2 _ rfl)),(rdS J (F 3 _ rfl)),trivial⟩)<|aB 1 rfl ?_
 refine f_S (aW Tryz.call50 rfl (fun w_ U=>qat_spec Z bs cb Y R cc n s t v w_ (hn.up0 U) hlen O hs ht hv) ?_);rintro _ _ ⟨rfl,rfl⟩;dsimp only [aK,aJ];refine aB 3 rfl<|aD kh2<|aZ ?_
 exact bO [] Tryz.results49 rfl aP ⟨by unfold pQ;rw [Int.toNat_natCast],rfl⟩
theorem qDist_spec (n:Nat) (A:Option Addr) (l:List Arc) (cap:Nat) (Ab:Option Addr) (bs:List Int) (cb:Nat) (Ac:Option Addr) (R:List Row) (cc:Nat) (Ao:Option Addr) (O:List MRow) (co:Nat) (ep:Int) (s t:Nat) (w:World) (hG:GN (Fr w []) w n A l Ab bs Ac R) (hO:OvRo (Fr w []) w Ao O) (he:ep≤1073741824) (bq:OvOk l (bJ R) bs.length ep (g4 O)) (hs:s<n) (ht:t<n):
    Meets Tryz.prog 17 [.agg #[.int .i64 (n:Int),.slice A l.length cap],.agg #[.slice Ab bs.length cb,.slice Ac R.length cc],.slice Ao O.length co,.int .i64 (s:Int),.int .i64 (t:Int)] w [] (fun u own' =>∃ x,u= .tuple #[.int .u64 x,.int .i64 0]∧own' =[]∧IsB l iM s t x):=by
 have bM:=hG
 obtain ⟨hr,hok,hn,ac⟩:=bM
 obtain ⟨b2,b7,hlen,aq⟩:=cF ac.g
 have hl:l.length≤9223372036854775807:=aA
 have hN:I64 (n:Int):=by constructor<;>omega
 have ah:=ac.len
 rw [eZ] at ah;have bu:=ac.many
 have hF:=bq.fit (SameEnds.refl l)
 have ae:∀ x∈l,0≤x.wt∧x.wt≤4294967295:=fun x hx=>(hok x hx).wt
 obtain ⟨hQ,aw⟩:=qy_e (s:=s) (t:=t) ah ac bq ae
 have ad:∀ r∈R,r.2.1.length=n:=fun r hr=>by
   obtain ⟨k,hk,rfl⟩:=List.mem_iff_getElem.1 hr
   rw [← iV hk];exact ac.rowlen aA
 have b3:=cqK_len (l:=l) (Ls:=bJ R) (p:=pQ (bJ R) s t R.length) (hF.small ac hlen) (k:=bs.length) (by rw [hF.len];exact Nat.le_refl _)
 refine bG Tryz.func17 rfl Tryz.ntmps17 rfl Owns.nil<|aG fun kh1=>f_S (cZ rfl rfl fun b5=>?_)
 refine f_S (cZ rfl rfl fun b6=>?_);refine aB 2 rfl<|aD kh1<|aV fun kh2=>aG fun kh3=>f_Q (aQ (vs:=[_,_]) Tryz.isAgg24 Tryz.sizeOf24 rfl rfl ⟨(rdA rfl),(rdA rfl),trivial⟩)<|f_Q (aQ (vs:=[_,_]) Tryz.isAgg34 Tryz.sizeOf34 rfl rfl ⟨(rdA rfl),(rdA rfl),trivial⟩)<|aB 3 rfl ?_
 refine f_S (aW Tryz.call47 rfl (fun w_ hp_=>qlooked_spec n A l cap Ab bs cb Ac R cc Ao O co ep s t w_ (hG.up0 hp_) (hO.up0 hp_) he hF hs ht) ?_);rintro _ _ ⟨rfl,rfl⟩;dsimp only [aK,aJ];refine aB 1 rfl<|aD kh3<|aG fun kh4=>aB 2 rfl<|aD kh4<|d4 rfl aO<|bZ kh2<|aV fun kh5=>aG fun bC=>aB 3 rfl ?_
 refine aD bC<|aX rfl (fun c30=>?_) (fun c30=>?_)
 ·obtain rfl:s=t:=aA
  refine aG fun bD=>aB 2 rfl<|aD bD<|aZ<|dA ?_
  exact dB [] Tryz.results17 rfl rfl aP ⟨0,rfl,rfl,by decide,fun _=> .nil,fun m hm=>hm.nonneg fun x hx=>(ae x hx).1⟩
 ·refine bZ kh5<|aG fun kh8=>f_Q (aQ (vs:=[_,_]) Tryz.isAgg34 Tryz.sizeOf34 rfl rfl ⟨(rdA rfl),(rdA rfl),trivial⟩)<|aB 2 rfl<|f_Q (dU (cs:=[.slice Ab bs.length cb,.slice Ac R.length cc,.int .i64 (s:Int),.int .i64 (t:Int)]) st101 rfl (by kernel_rfl)) ?_
  refine f_S (cX Tryz.zeroValue101 rfl fun an=>?_);refine f_Z (bS Tryz.sizeOf101 rfl rfl rfl rfl cG [.slice Ab bs.length cb,.slice Ac R.length cc,.int .i64 (s:Int),.int .i64 (t:Int)] rfl ?_);refine aD kh8<|aG fun kh9=>f_S (iY fun J=>?_)
  refine f_S (iY fun U=>?_);refine f_Q (dU (cs:=[.map (some J),.map (some U)]) st105 rfl (by kernel_rfl)) ?_;refine f_S (cX Tryz.zeroValue105 rfl fun au=>?_);refine f_Z (bS Tryz.sizeOf105 rfl rfl rfl rfl cG [.map (some J),.map (some U)] rfl ?_);refine aD kh9<|aV fun kh10=>aG fun kh11=>f_Q (aQ (vs:=[_,_]) Tryz.isAgg105 Tryz.sizeOf105 rfl rfl ⟨(rdA rfl),(rdA rfl),trivial⟩)<|f_Q (aQ (vs:=[_,_]) Tryz.isAgg24 Tryz.sizeOf24 rfl rfl ⟨(rdA rfl),(rdA rfl),trivial⟩)<|f_Q (aQ (vs:=[_,_]) Tryz.isAgg34 Tryz.sizeOf34 rfl rfl ⟨(rdA rfl),(rdA rfl),trivial⟩)<|aB 1 rfl<|f_Q (mH rfl rfl) ?_
  refine f_S (d5 [[(J,e9 iO [] 0)],[(U,e9 iO [] 0)]] _ Tryz.call48 rfl (by repeat (first|exact Sub.refl|refine aL ?_|refine bV rfl ?_)) (fun w_ hp_=>cliques_spec n A l cap Ab bs cb Ac R cc Ao O co ep J U _ _ (pQ (bJ R) s t R.length) 49 [.pointer (some ⟨an,0,none⟩)] w_ (hG.upF hp_) (hO.upF hp_) hF (TblR.nil n J false) (TblR.nil n U true) Tryz.call49 (fun w' bf k v hk hv=>by have h:=Dist1_spec Ab bs cb Ac R cc n s t k v an w' (heldIn hp_ bf) (hn.keepF hp_.lt (hp_.chain bf)) ad aA hs ht hv;exact h) hp_.owns) ?_);rintro _ _ ⟨m1,m2,rfl,rfl,bL,bt⟩;dsimp only [aK,aJ];refine aB 1 rfl<|aD kh11<|aG fun kh12=>aB 2 rfl<|aD kh12<|d4 rfl aO<|bZ kh10<|aV fun kh13=>aG fun bk=>cN gM rfl ?_
  refine f_Q (aH Tryz.isAgg22 rfl (v:= .slice A l.length cap) (rdA rfl))<|dY j7 rfl<|aB 1 rfl<|aD bk<|aS ?_
  refine dF (α:=Nat×Seg×Seg) [3,4,5,6,13,14,48,49] (fun ⟨k,m1',m2'⟩=>[(50,.int .i64 (k:Int))]) (fun ⟨k,m1',m2'⟩=>[m1',m2',[(au,blk [.map (some J),.map (some U)] 105)],[(an,blk [.slice Ab bs.length cb,.slice Ac R.length cc,.int .i64 (s:Int),.int .i64 (t:Int)] 101)],[(b5,blk [.int .i64 (n:Int),.slice A l.length cap] 24)],[(b6,blk [.slice Ab bs.length cb,.slice Ac R.length cc] 34)]]) (fun ⟨k,m1',m2'⟩=>k≤l.length∧TblR n ((cqK l (bJ R) (pQ (bJ R) s t R.length) (g4 O) bs.length++(l.take k).filter (qP (bJ R) s t R.length)).map (trn false)) J m1'∧TblR n ((cqK l (bJ R) (pQ (bJ R) s t R.length) (g4 O) bs.length++(l.take k).filter (qP (bJ R) s t R.length)).map (trn true)) U m2') (fun ⟨k,m1',m2'⟩=>l.length - k) (0,m1,m2) ?_ ?_ ?_ ?_
  ·exact aF
  ·exact aC
  ·exact ⟨Nat.zero_le _,by rw [List.take_zero,List.filter_nil,List.append_nil];exact bL,by rw [List.take_zero,List.filter_nil,List.append_nil];exact bt⟩
  ·rintro ⟨k,m1',m2'⟩ ⟨bR,ab,aa⟩;refine aG fun kh15=>aB 1 rfl<|aD kh15<|aV fun kh16=>aX rfl (fun bw=>?_) (fun bw=>?_)
   ·have hk:k<l.length:=aA
    obtain ⟨bA,oA,rfl,bB,bE⟩:=hr (fH cH dO aA hk)
    have bW:=aq k hk
    obtain ⟨u,hu,bc⟩:∃ u:Nat,l[k].src=(u:Int)∧u<n:=⟨l[k].src.toNat,aA,aA⟩
    obtain ⟨v,hv,ay⟩:∃ u:Nat,l[k].dst=(u:Int)∧u<n:=⟨l[k].dst.toNat,aA,aA⟩
    have ar:l[k].src.toNat=u:=aA
    have be:l[k].dst.toNat=v:=aA
    have am:=filter_next (p:=qP (bJ R) s t R.length) hk
    have bv:=List.length_filter_le (qP (bJ R) s t R.length) (l.take k)
    rw [List.length_take] at bv;refine bZ kh16<|aV fun kh17=>aS<|aG fun kh18=>f_Q (aM j7 rfl rfl (oA+k*3))<|f_Q (aQ (vs:=cH l[k]) Tryz.isAgg69 Tryz.sizeOf69 rfl rfl (gV dO bB bE hk))<|f_S (cX Tryz.zeroValue69 rfl fun b17=>?_)
    refine f_Z (bS Tryz.sizeOf69 rfl rfl rfl rfl cG (cH l[k]) rfl ?_);refine aD kh18<|aG fun kh19=>f_Q (aQ (vs:=[_,_,_,_]) Tryz.isAgg101 Tryz.sizeOf101 rfl rfl ⟨(rdA rfl),(rdA rfl),(rdA rfl),(rdA rfl),trivial⟩)<|cN gC rfl<|c7 Tryz.isAgg3 rfl (rdA rfl) ?_
    refine f_S (aW Tryz.call50 rfl (fun w_ hp_=>(by have h:=qat_spec Ab bs cb Ac R cc n s t u w_ (hn.up0 hp_) ad aA hs ht bc;rw [← hu] at h;exact h)) ?_);rintro _ _ ⟨rfl,rfl⟩;dsimp only [aK,aJ];refine aB 1 rfl<|aD kh19 ?_
    refine oU (α:=Bool) [3,4,5,6,13,14,17,48,49,50] (fun z=>[(90,.bool z)]) (fun z=>[[(b17,blk (cH l[k]) 69)],m1',m2',[(au,blk [.map (some J),.map (some U)] 105)],[(an,blk [.slice Ab bs.length cb,.slice Ac R.length cc,.int .i64 (s:Int),.int .i64 (t:Int)] 101)],[(b5,blk [.int .i64 (n:Int),.slice (some ⟨bA,oA,none⟩) l.length cap] 24)],[(b6,blk [.slice Ab bs.length cb,.slice Ac R.length cc] 34)]]) (fun z=>z=qP (bJ R) s t R.length l[k]) ?_ ?_
    ·intro b1 ag;refine cQ [[(an,blk [.slice Ab bs.length cb,.slice Ac R.length cc,.int .i64 (s:Int),.int .i64 (t:Int)] 101)],[(b6,blk [.slice Ab bs.length cb,.slice Ac R.length cc] 34)],[(b17,blk (cH l[k]) 69)]] rfl<|f_T 0 rfl (aR rfl)<|f_T 1 rfl (o_eql rfl rfl)<|f_T 2 rfl (aR rfl)<|f_splitH 60 rfl (fun g60=>?_) (fun g60=>?_)
     ·refine dE 3 rfl aU rfl rfl rfl rfl rfl rfl aC<|dE 4 rfl aU rfl rfl rfl rfl rfl rfl aC<|dE 5 rfl aU rfl rfl rfl rfl rfl rfl aC<|dE 6 rfl aU rfl rfl rfl rfl rfl rfl aC<|dE 7 rfl aU rfl rfl rfl rfl rfl rfl aC<|dE 8 rfl aU rfl rfl rfl rfl rfl rfl aC<|f_T 9 rfl (lQ rfl rfl)<|f_T 10 rfl (aR rfl)<|dE 11 rfl aU rfl rfl rfl rfl rfl rfl aC<|dE 12 rfl aU rfl rfl rfl rfl rfl rfl aC ?_
      refine dE 13 rfl aU rfl rfl rfl rfl rfl rfl aC<|dE 14 rfl aU rfl rfl rfl rfl rfl rfl aC<|dE 15 rfl aU rfl rfl rfl rfl rfl rfl aC<|dE 16 rfl aU rfl rfl rfl rfl rfl rfl aC<|dE 17 rfl aU rfl rfl rfl rfl rfl rfl aC<|dE 18 rfl aU rfl rfl rfl rfl rfl rfl aC<|dE 19 rfl aU rfl rfl rfl rfl rfl rfl aC<|dE 20 rfl aU rfl rfl rfl rfl rfl rfl aC<|dE 21 rfl aU rfl rfl rfl rfl rfl rfl aC<|dE 22 rfl aU rfl rfl rfl rfl rfl rfl aC ?_
      refine dE 23 rfl aU rfl rfl rfl rfl rfl rfl aC<|dE 24 rfl aU rfl rfl rfl rfl rfl rfl aC<|dE 25 rfl aU rfl rfl rfl rfl rfl rfl aC<|dE 26 rfl aU rfl rfl rfl rfl rfl rfl aC<|dE 27 rfl aU rfl rfl rfl rfl rfl rfl aC<|dE 28 rfl aU rfl rfl rfl rfl rfl rfl aC<|dE 29 rfl aU rfl rfl rfl rfl rfl rfl aC<|dE 30 rfl aU rfl rfl rfl rfl rfl rfl aC<|dE 31 rfl aU rfl rfl rfl rfl rfl rfl aC<|f_T 32 rfl (lQ rfl rfl) ?_
      refine cO aU<|cV (ag _ _ (true) (qP_src ar aA).symm ?_ ?_ ?_)
      ·exact aF
      ·exact aF
      ·exact aC
     ·obtain ⟨Z,bK⟩:∃ Z,atV (bJ R) s t R.length u=Z+1:=⟨atV (bJ R) s t R.length u - 1,aA⟩
      have bR:=atV_le (bJ R) s t R.length u
      have F:Z<R.length:=aA
      have b4:=ad _ (List.getElem_mem F)
      obtain ⟨b0,o0,a2,ba,bh⟩:=hn.c (gX F)
      obtain ⟨br, or, bi, bg, ax⟩ := (hn.rows _ (List.getElem_mem F)).1 (fun e => by have := a7 (R[Z]'F).2.1; rw [e] at this; simp at this; omega)
      have bj : u < (R[Z]'F).2.1.length := aA
      have az : v < (R[Z]'F).2.1.length := aA
      refine iA 3 rfl rfl rfl (aR rfl)<|iA 4 rfl rfl rfl (aQ (vs:=[_,_,_,_]) Tryz.isAgg101 Tryz.sizeOf101 rfl rfl ⟨(rdA rfl),(rdA rfl),(rdA rfl),(rdA rfl),trivial⟩)<|iA 5 rfl rfl rfl (aT fT rfl)<|iA 6 rfl rfl rfl (aH Tryz.isAgg3 rfl (rdA rfl)) ?_
      refine f_onlyY 7 rfl aU rfl rfl rfl rfl rfl (aW Tryz.call50 rfl (fun w_ hp_=>(by have h:=qat_spec Ab bs cb Ac R cc n s t v w_ (hn.up0 hp_) ad aA hs ht ay;rw [← hv] at h;exact h)) ?_);rintro _ _ ⟨rfl,rfl⟩;dsimp only [aK,aJ];refine ⟨aC,?_⟩;refine iA 8 rfl rfl rfl (o_neq rfl rfl)<|f_T 9 rfl (oG rfl rfl)<|f_T 10 rfl (aR rfl)<|f_splitH 68 rfl (fun g68=>?_) (fun g68=>?_)
      ·refine dE 11 rfl aU rfl rfl rfl rfl rfl rfl aC<|dE 12 rfl aU rfl rfl rfl rfl rfl rfl aC<|dE 13 rfl aU rfl rfl rfl rfl rfl rfl aC<|dE 14 rfl aU rfl rfl rfl rfl rfl rfl aC<|dE 15 rfl aU rfl rfl rfl rfl rfl rfl aC<|dE 16 rfl aU rfl rfl rfl rfl rfl rfl aC<|dE 17 rfl aU rfl rfl rfl rfl rfl rfl aC<|dE 18 rfl aU rfl rfl rfl rfl rfl rfl aC<|dE 19 rfl aU rfl rfl rfl rfl rfl rfl aC<|dE 20 rfl aU rfl rfl rfl rfl rfl rfl aC ?_
       refine dE 21 rfl aU rfl rfl rfl rfl rfl rfl aC<|dE 22 rfl aU rfl rfl rfl rfl rfl rfl aC<|dE 23 rfl aU rfl rfl rfl rfl rfl rfl aC<|dE 24 rfl aU rfl rfl rfl rfl rfl rfl aC<|dE 25 rfl aU rfl rfl rfl rfl rfl rfl aC<|dE 26 rfl aU rfl rfl rfl rfl rfl rfl aC<|dE 27 rfl aU rfl rfl rfl rfl rfl rfl aC<|dE 28 rfl aU rfl rfl rfl rfl rfl rfl aC<|dE 29 rfl aU rfl rfl rfl rfl rfl rfl aC<|dE 30 rfl aU rfl rfl rfl rfl rfl rfl aC ?_
       refine dE 31 rfl aU rfl rfl rfl rfl rfl rfl aC<|f_T 32 rfl (lQ rfl rfl)<|cO aU<|cV (ag _ _ (true) (qP_lvl ar be aA).symm ?_ ?_ ?_)
       ·exact aF
       ·exact aF
       ·exact aC
      ·refine iA 11 rfl rfl rfl (aT jF rfl)<|iA 12 rfl rfl rfl (aH Tryz.isAgg32 rfl (v:= .slice (some ⟨b0,o0,none⟩) R.length cc) (rdA (by rw [← a2];rfl))) ?_
       refine iA 13 rfl rfl rfl (aR rfl)<|iA 14 rfl rfl rfl (j5 rfl rfl _ (Eq.trans (d8 aA) (show _=(Z:Int) by omega))) ?_
       refine iA 15 rfl rfl rfl (aM g5 rfl rfl (o0 + Z)) <| iA 16 rfl rfl rfl (aH Tryz.isAgg25 rfl (v := .slice (some ⟨br, or, none⟩) (R[Z]'F).2.1.length (R[Z]'F).2.2) (show Rd _ _ _ _ _ (Value.slice (some ⟨br, or, none⟩) (R[Z]'F).2.1.length (R[Z]'F).2.2) by rw [← bi]; exact eC (enc := fI) ba bh F)) ?_
       refine iA 17 rfl rfl rfl (aT gC rfl)<|iA 18 rfl rfl rfl (aH Tryz.isAgg3 rfl (rdA rfl))<|iA 19 rfl rfl rfl (aM bU rfl rfl (or+u))<|iA 20 rfl rfl rfl (aH Tryz.isAgg3 rfl (eC (enc:=(.int .i64 ·)) bg ax bj))<|iA 21 rfl rfl rfl (aT jF rfl)<|iA 22 rfl rfl rfl (aH Tryz.isAgg32 rfl (v:= .slice (some ⟨b0,o0,none⟩) R.length cc) (rdA (by rw [← a2];rfl))) ?_
       refine iA 23 rfl rfl rfl (aR rfl)<|iA 24 rfl rfl rfl (j5 rfl rfl _ (Eq.trans (d8 aA) (show _=(Z:Int) by omega))) ?_
       refine iA 25 rfl rfl rfl (aM g5 rfl rfl (o0 + Z)) <| iA 26 rfl rfl rfl (aH Tryz.isAgg25 rfl (v := .slice (some ⟨br, or, none⟩) (R[Z]'F).2.1.length (R[Z]'F).2.2) (show Rd _ _ _ _ _ (Value.slice (some ⟨br, or, none⟩) (R[Z]'F).2.1.length (R[Z]'F).2.2) by rw [← bi]; exact eC (enc := fI) ba bh F)) ?_
       refine iA 27 rfl rfl rfl (aT fT rfl) <| iA 28 rfl rfl rfl (aH Tryz.isAgg3 rfl (rdA rfl)) <| iA 29 rfl rfl rfl (aM bU rfl rfl (or + v)) <| iA 30 rfl rfl rfl (aH Tryz.isAgg3 rfl (eC (enc := (.int .i64 ·)) bg ax az)) <| iA 31 rfl rfl rfl (o_neq rfl rfl) <| f_T 32 rfl (oG rfl rfl) <| cO aU <| cV (ag _ _ (decide ((R[Z]'F).2.1[u] ≠ (R[Z]'F).2.1[v])) (by rw [qP_cell ar be bK aA, iV F, eJ bj, eJ az]) ?_ ?_ ?_)
       ·exact aF
       ·exact aF
       ·exact aC
    ·rintro z hz;refine e8 rfl (fun av=>?_) (fun av=>?_)
     ·rw [← hz,av,if_pos rfl] at am;refine aI<|f_Q (aQ (vs:=[_,_]) Tryz.isAgg105 Tryz.sizeOf105 rfl rfl ⟨(rdA rfl),(rdA rfl),trivial⟩)<|cN gC rfl<|c7 Tryz.isAgg3 rfl (rdA rfl)<|cN fT rfl<|c7 Tryz.isAgg3 rfl (rdA rfl)<|cN fa69_2 rfl<|c7 Tryz.isAgg56 rfl (rdA rfl)<|f_Q (iH Tryz.runUnderlying56 Tryz.runUnderlying46 rfl _ (iS (by have:=ae _ (List.getElem_mem hk);omega))) ?_
      refine f_S (d5 [m1',m2'] _ Tryz.call51 rfl (by repeat (first|exact Sub.refl|refine aL ?_|refine bV rfl ?_)) (fun w_ hp_=>(by have h:=put_spec n (cqK l (bJ R) (pQ (bJ R) s t R.length) (g4 O) bs.length++(l.take k).filter (qP (bJ R) s t R.length)) J U m1' m2' u v l[k].wt w_ ab aa bc ay (by rw [List.length_append];omega) hp_.owns;rw [← hu,← hv] at h;exact h)) ?_);rintro _ _ ⟨a1,bp,rfl,rfl,ak,aj⟩;rw [show putE (cqK l (bJ R) (pQ (bJ R) s t R.length) (g4 O) bs.length++(l.take k).filter (qP (bJ R) s t R.length)) l[k]=(cqK l (bJ R) (pQ (bJ R) s t R.length) (g4 O) bs.length++(l.take k).filter (qP (bJ R) s t R.length))++[l[k]] from if_pos (by have:=(ae _ (List.getElem_mem hk)).2;unfold INF;omega),List.append_assoc,← am] at ak aj;dsimp only [aK,aJ];refine aY<|dI<|bP kh17<|aI<|f_Q (bF rfl rfl)<|aB 1 rfl<|aY ?_
      refine cV (a6 (k+1,a1,bp) (by first|omega|(dsimp only;omega)|(simp;omega)) ⟨aA,ak,aj⟩ ?_ ?_ ?_)
      ·exact aF
      ·exact aF
      ·exact aC
     ·rw [← hz,av,if_neg (by decide),List.append_nil] at am;refine dZ<|dI<|bP kh17<|aI<|f_Q (bF rfl rfl)<|aB 1 rfl<|aY ?_
      refine cV (a6 (k+1,m1',m2') (by first|omega|(dsimp only;omega)|(simp;omega)) ⟨aA,by rw [am];exact ab,by rw [am];exact aa⟩ ?_ ?_ ?_)
      ·exact aF
      ·exact aF
      ·exact aC
   ·obtain rfl:k=l.length:=aA
    rw [List.take_length] at ab aa;refine cS<|cU<|cU<|eH<|bP kh13<|aV fun kh21=>cQ [[(au,blk [.map (some J),.map (some U)] 105)],[(b5,blk [.int .i64 (n:Int),.slice A l.length cap] 24)]] rfl<|f_T 0 rfl (aT fa105_0 rfl)<|f_T 1 rfl (aH Tryz.isAgg103 rfl (rdA rfl))<|f_T 2 rfl (qI Tryz.underlying103 rfl rfl) ?_
    refine f_T 3 rfl (aT eV rfl)<|f_T 4 rfl (aH Tryz.isAgg3 rfl (rdA rfl))<|f_T 5 rfl (aR rfl)<|f_T 6 rfl (dU st113 rfl rfl)<|f_T 9 rfl (aT fa105_1 rfl)<|f_T 10 rfl (aH Tryz.isAgg103 rfl (rdA rfl))<|f_T 11 rfl (qI Tryz.underlying103 rfl rfl)<|f_T 12 rfl (aT eV rfl)<|f_T 13 rfl (aH Tryz.isAgg3 rfl (rdA rfl))<|f_T 14 rfl (aR rfl) ?_
    refine f_T 15 rfl (dU st113 rfl rfl)<|gD 7 16 rfl rfl aU rfl rfl rfl rfl rfl rfl ?_ ?_
    ·refine (bX l9 aA rfl rfl rfl fun Y=>⟨aC,?_⟩);refine gD 8 16 rfl rfl aU rfl rfl rfl rfl rfl rfl ?_ ?_
     ·refine (aW Tryz.call53 rfl (fun w_ hp_=>kP n J s aA hs (some ⟨Y,0,none⟩) 1 w_ (fK (b:=Y) hp_ (cs:=[.int .i64 (s:Int),.int .u64 0]) (fun j v hj=>hj))) ?_);rintro _ _ ⟨bx,ai,mx,rfl,rfl,ao⟩;dsimp only [aK,aJ];refine ⟨aC,?_⟩;refine f_O 16 rfl (bX l9 aA rfl rfl rfl fun X=>⟨aC,?_⟩);refine f_O 17 rfl (aW Tryz.call53 rfl (fun w_ hp_=>kP n U t aA ht (some ⟨X,0,none⟩) 1 w_ (fK (b:=X) hp_ (cs:=[.int .i64 (t:Int),.int .u64 0]) (fun j v hj=>hj))) ?_);rintro _ _ ⟨bY,al,my,rfl,rfl,ap⟩;dsimp only [aK,aJ];refine ⟨aC,?_⟩;refine f_O 18 rfl (d5 [([mx,m1']:List Seg).flatten,([my,m2']:List Seg).flatten] _ Tryz.call52 rfl (Sub.flatTwo (out1:=[mx,m1']) (out2:=[my,m2']) (by dsimp only [aK,aJ];repeat (first|exact Sub.refl|refine aL ?_))) (fun w_ hp_=>qmeet_spec n aA (cqK l (bJ R) (pQ (bJ R) s t R.length) (g4 O) bs.length++l.filter (qP (bJ R) s t R.length)) aw s t hs ht aA J bx ai U bY al _ _ w_ (FR.mk ao ab) (FR.mk ap aa) hp_.owns) ?_);rintro _ _ ⟨x,rfl,rfl,hx⟩;dsimp only [aK,aJ];refine ⟨aC,?_⟩;refine f_O 19 rfl ((bI rfl).does ⟨aC,?_⟩);refine f_O 20 rfl ((bI rfl).does ⟨aC,?_⟩);refine cO aU<|bP kh21<|aZ ?_
      exact dB [] Tryz.results17 rfl rfl aP ⟨x,rfl,rfl,qry_ok aq (fun x hx=>(ae x hx).1) (nest_lvs ac ah) hQ hs ht hx⟩
     ·refine (bX l9 aA rfl rfl rfl fun X=>⟨aC,?_⟩);refine f_O 8 rfl (aW Tryz.call53 rfl (fun w_ hp_=>kP n J s aA hs (some ⟨Y,0,none⟩) 1 w_ (fK (b:=Y) hp_ (cs:=[.int .i64 (s:Int),.int .u64 0]) (fun j v hj=>hj))) ?_);rintro _ _ ⟨bx,ai,mx,rfl,rfl,ao⟩;dsimp only [aK,aJ];refine ⟨aC,?_⟩;refine f_O 17 rfl (aW Tryz.call53 rfl (fun w_ hp_=>kP n U t aA ht (some ⟨X,0,none⟩) 1 w_ (fK (b:=X) hp_ (cs:=[.int .i64 (t:Int),.int .u64 0]) (fun j v hj=>hj))) ?_);rintro _ _ ⟨bY,al,my,rfl,rfl,ap⟩;dsimp only [aK,aJ];refine ⟨aC,?_⟩;refine f_O 18 rfl (d5 [([mx,m1']:List Seg).flatten,([my,m2']:List Seg).flatten] _ Tryz.call52 rfl (Sub.flatTwo (out1:=[mx,m1']) (out2:=[my,m2']) (by dsimp only [aK,aJ];repeat (first|exact Sub.refl|refine aL ?_))) (fun w_ hp_=>qmeet_spec n aA (cqK l (bJ R) (pQ (bJ R) s t R.length) (g4 O) bs.length++l.filter (qP (bJ R) s t R.length)) aw s t hs ht aA J bx ai U bY al _ _ w_ (FR.mk ao ab) (FR.mk ap aa) hp_.owns) ?_);rintro _ _ ⟨x,rfl,rfl,hx⟩;dsimp only [aK,aJ];refine ⟨aC,?_⟩;refine f_O 19 rfl ((bI rfl).does ⟨aC,?_⟩);refine f_O 20 rfl ((bI rfl).does ⟨aC,?_⟩);refine cO aU<|bP kh21<|aZ ?_
      exact dB [] Tryz.results17 rfl rfl aP ⟨x,rfl,rfl,qry_ok aq (fun x hx=>(ae x hx).1) (nest_lvs ac ah) hQ hs ht hx⟩
    ·refine (bX l9 aA rfl rfl rfl fun X=>⟨aC,?_⟩);refine f_O 7 rfl (bX l9 aA rfl rfl rfl fun Y=>⟨aC,?_⟩);refine f_O 8 rfl (aW Tryz.call53 rfl (fun w_ hp_=>kP n J s aA hs (some ⟨Y,0,none⟩) 1 w_ (fK (b:=Y) hp_ (cs:=[.int .i64 (s:Int),.int .u64 0]) (fun j v hj=>hj))) ?_);rintro _ _ ⟨bx,ai,mx,rfl,rfl,ao⟩;dsimp only [aK,aJ];refine ⟨aC,?_⟩;refine f_O 17 rfl (aW Tryz.call53 rfl (fun w_ hp_=>kP n U t aA ht (some ⟨X,0,none⟩) 1 w_ (fK (b:=X) hp_ (cs:=[.int .i64 (t:Int),.int .u64 0]) (fun j v hj=>hj))) ?_);rintro _ _ ⟨bY,al,my,rfl,rfl,ap⟩;dsimp only [aK,aJ];refine ⟨aC,?_⟩;refine f_O 18 rfl (d5 [([mx,m1']:List Seg).flatten,([my,m2']:List Seg).flatten] _ Tryz.call52 rfl (Sub.flatTwo (out1:=[mx,m1']) (out2:=[my,m2']) (by dsimp only [aK,aJ];repeat (first|exact Sub.refl|refine aL ?_))) (fun w_ hp_=>qmeet_spec n aA (cqK l (bJ R) (pQ (bJ R) s t R.length) (g4 O) bs.length++l.filter (qP (bJ R) s t R.length)) aw s t hs ht aA J bx ai U bY al _ _ w_ (FR.mk ao ab) (FR.mk ap aa) hp_.owns) ?_);rintro _ _ ⟨x,rfl,rfl,hx⟩;dsimp only [aK,aJ];refine ⟨aC,?_⟩;refine f_O 19 rfl ((bI rfl).does ⟨aC,?_⟩);refine f_O 20 rfl ((bI rfl).does ⟨aC,?_⟩);refine cO aU<|bP kh21<|aZ ?_
     exact dB [] Tryz.results17 rfl rfl aP ⟨x,rfl,rfl,qry_ok aq (fun x hx=>(ae x hx).1) (nest_lvs ac ah) hQ hs ht hx⟩
def l3Q:List Arc:=[⟨0,1,5⟩,⟨1,2,7⟩,⟨0,2,20⟩]
theorem l3Ok:∀ x∈l3Q,eN x:=by
 intro x hx;simp only [l3Q,List.mem_cons,List.not_mem_nil,or_false] at hx
 rcases hx with rfl|rfl|rfl<;>exact ⟨by decide,by decide,by decide⟩
theorem l3_dist {x:Int} (h:IsB l3Q iM 0 2 x):x=12:=by
 have F:IsD 3 l3Q iM 0 [0,5,12]:=by
  refine ⟨rfl,fun v hv=>?_,rfl,fun i hi _=>?_,fun v hv _=>?_⟩
  ·match v,hv with
   |0,_=>decide
   |1,_=>decide
   |2,_=>decide
  ·match i,hi with
   |0,_=>show (5:Int)≤0+5;decide
   |1,_=>show (12:Int)≤5+7;decide
   |2,_=>show (12:Int)≤0+20;decide
  ·match v,hv with
   |0,_=>exact .nil
   |1,_=>exact Wk.step (e:=l3Q) (p:=iM) (i:=0) (by decide) rfl .nil
   |2,_=>exact Wk.step (e:=l3Q) (p:=iM) (i:=1) (by decide) rfl (Wk.step (e:=l3Q) (p:=iM) (i:=0) (by decide) rfl .nil)
 exact h.unique (F.isB aA)
theorem l3_pl:plE 3 l3Q [2] [] 0=0:=aU
theorem rdIn {S:Nat→Prop} {w0:World} {segs o:List Seg} {G:Seg} {b i:Nat} {cs sp:List Value} {E:TypeId} {v:Value} [p:Pick segs G o] (hm:(b,blk (cs++sp) E)∈G) (hv:cs[i]? =some v):Rd S w0 segs b i v:=fun w hp=>by
 rw [hp.cell (p.perm.mem_iff.2 (List.mem_append_left _ hm)) i];exact d7 hv
theorem row_in {E:TypeId} {O:List (List Int)} {R:List Row} {ms:List Seg} (h:RowsI E O (R.map fI) ms) {k:Nat} (hk:k<R.length) (U:bJ R=O) (X:0<(R[k]).2.1.length):∃ J sp,(R[k]).1=some ⟨J,0,none⟩∧(J,blk (a8 (R[k]).2.1++sp) E)∈ms.flatten:=by
 subst U;have F:k<(bJ R).length:=by rw [eZ];exact hk
 have ho:=h.own k F
 have e1 : (R.map fI)[k]'(by simpa using hk) = fI R[k] := aO
 have e2:(bJ R)[k]=R[k].2.1:=by simp [bJ]
 rw [e1,e2] at ho;obtain ⟨J,sp,e,hm⟩:=ho.at_ X
 exact ⟨J,sp,e,List.mem_flatten.2 ⟨_,List.getElem_mem (by rw [h.lm];exact F),by rw [hm];simp⟩⟩
theorem tlarge_spec (N:Int) (A:Option Addr) (l:List Arc) (cap:Nat) (w:World) (hl:l.length≤9223372036854775807) (J:I64 N):Meets Tryz.prog 6 [.agg #[.int .i64 N,.slice A l.length cap]] w [] (fun u m=>∃ b,u= .bool b∧m=[]∧(b=false→N≤40∧l.length≤200)):=by
 refine bG Tryz.func6 rfl Tryz.ntmps6 rfl Owns.nil<|aG fun kh1=>f_S (cZ rfl rfl fun F=>?_)
 refine aB 1 rfl<|aD kh1<|aG fun kh2=>cN eV rfl<|c7 Tryz.isAgg3 rfl (rdA rfl)<|aB 2 rfl<|eA 6 rfl (fun g6=>?_) (fun g6=>?_)
 ·refine aB 6 rfl<|aD kh2<|aZ ?_
  exact bO [] Tryz.results6 rfl aP ⟨_,rfl,rfl,fun h=>by cases h⟩
 ·refine eI rfl rfl (aT gM rfl)<|eI rfl rfl (aH Tryz.isAgg22 rfl (rdA rfl))<|eI rfl rfl (iZ j7 rfl)<|aB 3 rfl<|aD kh2<|aZ ?_
  exact bO [] Tryz.results6 rfl aP ⟨_,rfl,rfl,fun h=>⟨aA,by have:=of_decide_eq_false h;omega⟩⟩
theorem tright_spec (N:Int) (A:Option Addr) (l:List Arc) (cap:Nat) (w:World) (hr:Ro (Fr w []) w A (l.flatMap cH)) (hl:l.length≤9223372036854775807) (O:I64 N) (hok:∀ x∈l,eN x):Meets Tryz.prog 7 [.agg #[.int .i64 N,.slice A l.length cap]] w [] (fun u m=>∃ b,u= .bool b∧m=[]∧(b=true→(cL N l).2=0)):=by
 refine bG Tryz.func7 rfl Tryz.ntmps7 rfl Owns.nil<|aG fun kh1=>f_S (cZ rfl rfl fun U=>?_)
 refine aB 1 rfl<|aD kh1<|aG fun kh2=>f_Q (aQ (vs:=[_,_]) Tryz.isAgg24 Tryz.sizeOf24 rfl rfl ⟨(rdA rfl),(rdA rfl),trivial⟩) ?_
 refine f_S (aW Tryz.call20 rfl (fun J F=>gF N A l cap J (hr.up0 F) hl O hok) ?_);rintro _ _ ⟨rfl,rfl⟩;dsimp only [aK,aJ];refine aB 5 rfl<|aD kh2<|aG fun kh3=>aB 3 rfl<|aD kh3<|aZ ?_
 exact bO [] Tryz.results7 rfl aP ⟨_,rfl,rfl,fun h=>of_decide_eq_true h⟩
theorem three_spec (w:World):Meets Tryz.prog 19 [] w [] (fun u m=>∃ b,u= .agg #[.int .i64 3,.slice (some ⟨b,0,none⟩) 3 3]∧m=[[(b,blk (l3Q.flatMap cH) 69)]]):=by
 refine bG Tryz.func19 rfl Tryz.ntmps19 rfl Owns.nil<|aG fun kh1=>f_S (cX Tryz.zeroValue24 rfl fun b0=>?_)
 refine aD kh1<|aG fun kh2=>f_Q (dU st69 rfl rfl)<|f_Q (dU st69 rfl rfl)<|f_Q (dU st69 rfl rfl)<|f_S (o_sliceN (len:=3) el22 aA rfl rfl fun F=>?_)
 refine f_Q (dU st24 rfl rfl)<|f_Z (bS Tryz.sizeOf24 rfl rfl rfl rfl cG [.int .i64 3,.slice (some ⟨F,0,none⟩) 3 3] rfl ?_)
 refine aD kh2<|aZ ?_
 exact f_fin1c (vs:=[.int .i64 3,.slice (some ⟨F,0,none⟩) 3 3]) [[(F,blk (l3Q.flatMap cH) 69)]] Tryz.results19 rfl Tryz.isAgg24 Tryz.sizeOf24 rfl ⟨(rdA rfl),(rdA rfl),trivial⟩ aC ⟨F,rfl,rfl⟩
theorem routed_spec (w:World):Meets Tryz.prog 5 [] w [] (fun u m=>u= .bool true∧m=[]):=by
 refine bG Tryz.func5 rfl Tryz.ntmps5 rfl Owns.nil<|aG fun kh1=>aB 1 rfl<|aD kh1<|aG fun kh2=>?_
 refine f_S (aW Tryz.call19 rfl (fun O F=>three_spec O) ?_);rintro _ _ ⟨aa,rfl,rfl⟩;dsimp only [aK,aJ];refine f_S (bX eO aA rfl rfl rfl fun b9=>?_);refine f_S (aW Tryz.call18 rfl (fun O F=>Make_spec 3 (some ⟨aa,0,none⟩) l3Q 3 (some ⟨b9,0,none⟩) [2] 1 none [] 0 0 O (fK (b:=aa) F (fun j v hj=>hj)) (by decide) (by decide) l3Ok (fK (b:=b9) F (cs:=a8 [2]) (fun j v hj=>hj)) (by decide) Ro.nil (by decide) ⟨by decide,by decide⟩) ?_);rintro _ _ ⟨ap,L,R,Ab,Ac,U,J,mb,mc,ms,rfl,rfl,ab,ae,ag,X,_,hz⟩;obtain ⟨rfl,ai,ak⟩:=hz l3_pl
 rw [l3_pl];obtain ⟨n3,aq,an⟩:=plE_zero l3_pl
 obtain rfl:n3=3:=aA
 have Y:=made_ok an ak ai
 rw [← X] at Y;have al:R.length=1:=by rw [← eZ,X,ai];rfl
 dsimp only [aK,aJ];refine aB 3 rfl<|f_S (cX Tryz.zeroValue34 rfl fun b1=>?_)
 refine f_Z (bS Tryz.sizeOf34 rfl rfl rfl rfl cG [.slice Ab 1 U,.slice Ac R.length J] rfl ?_);refine aB 1 rfl<|aD kh2<|aV fun kh3=>cQ [[(b1,blk [.slice Ab 1 U,.slice Ac R.length J] 34)]] rfl<|f_T 1 rfl (aQ (vs:=[_,_]) Tryz.isAgg34 Tryz.sizeOf34 rfl rfl ⟨(rdA rfl),(rdA rfl),trivial⟩) ?_
 refine f_O 0 rfl (aW Tryz.call19 rfl (fun O F=>three_spec O) ?_);rintro _ _ ⟨ac,rfl,rfl⟩;dsimp only [aK,aJ];refine ⟨aC,?_⟩;refine f_O 2 rfl (aW Tryz.call14 rfl (fun O F=>All_spec 3 (some ⟨ac,0,none⟩) l3Q 3 Ab [2] U Ac R J 0 O ⟨fK (b:=ac) F (fun j v hj=>hj),l3Ok,nest_ro F ab ae ag X aA,Y⟩ ⟨by decide,by decide⟩) ?_);rintro _ _ ⟨Os,vs,rs,ds,bo,rfl,rfl,hB,Z⟩;dsimp only [aK,aJ];refine ⟨aC,?_⟩;refine f_T 3 rfl (aR rfl)<|f_T 4 rfl (eU rfl rfl)<|f_T 5 rfl (eU rfl rfl)<|f_O 6 rfl ((bI rfl).does ⟨aC,?_⟩)
 refine f_O 7 rfl ((bI rfl).does ⟨aC,?_⟩);refine cO aU<|bP kh3<|aV fun kh4=>cQ [[(b1,blk [.slice Ab 1 U,.slice Ac R.length J] 34)]] rfl<|f_T 1 rfl (aQ (vs:=[_,_]) Tryz.isAgg34 Tryz.sizeOf34 rfl rfl ⟨(rdA rfl),(rdA rfl),trivial⟩)<|f_T 2 rfl (aR rfl) ?_
 refine f_O 0 rfl (aW Tryz.call19 rfl (fun O F=>three_spec O) ?_);rintro _ _ ⟨ah,rfl,rfl⟩;dsimp only [aK,aJ];refine ⟨aC,?_⟩
 refine f_O 3 rfl (aW Tryz.call17 rfl (fun O F=>(by
   obtain ⟨O',ao,ad,aj⟩:=hB.ro bo F (by rw [Z.len];decide)
   have am:O'.length=1:=by rw [← nC,ad,Z.len];rfl
   have h:=qDist_spec 3 (some ⟨ah,0,none⟩) l3Q 3 Ab [2] U Ac R J (some ⟨bo,0,none⟩) O' 1 0 0 2 O ⟨fK (b:=ah) F (fun j v hj=>hj),l3Ok,nest_ro F ab ae ag X aA,Y⟩ aj (by decide) (by rw [ad];exact Z) (by decide) (by decide)
   rw [am] at h;exact h)) ?_)
 rintro _ _ ⟨x,rfl,rfl,hx⟩;obtain rfl:=l3_dist hx
 dsimp only [aK,aJ];refine ⟨aC,?_⟩;refine f_T 4 rfl (aR rfl)<|f_T 5 rfl (eU rfl rfl)<|f_T 6 rfl (eU rfl rfl)<|f_O 7 rfl ((bI rfl).does ⟨aC,?_⟩)
 refine f_O 8 rfl ((bI rfl).does ⟨aC,?_⟩);refine cO aU<|bP kh4<|aG fun kh5=>aB 3 rfl<|f_trueL 28 rfl (rfl)<|aB 4 rfl<|f_trueL 32 rfl (rfl)<|aB 4 rfl<|f_trueL 36 rfl (rfl)<|aB 4 rfl ?_
 refine aD kh5<|aZ ?_
 exact bO [] Tryz.results5 rfl aP ⟨by rfl,rfl⟩
theorem drawn_spec (N:Int) (A:Option Addr) (l:List Arc) (cap:Nat) (B:Option Addr) (bs:List Int) (bc:Nat) (C:Option Addr) (cs:List Int) (cc:Nat) (mv:Int) (w:World) (hr:Ro (Fr w []) w A (l.flatMap cH)) (hl:l.length≤9223372036854775807) (hN:I64 N) (hok:∀ x∈l,eN x) (hB:Ro (Fr w []) w B (a8 bs)) (ai:bs.length≤bc∧bc≤9223372036854775807) (hC:Ro (Fr w []) w C (a8 cs)) (aj:cs.length≤9223372036854775807):
    Meets Tryz.prog 8 [.agg #[.int .i64 N,.slice A l.length cap],.agg #[.slice B bs.length bc,.slice C cs.length cc,.int .i64 mv]] w [] (fun u own' =>∃ (ok:Bool) (F:List Int) (R:List Row) (Z Y:Option Addr) (ac ab:Nat) (mb mc:Seg) (ms:List Seg),u= .tuple #[.agg #[.slice Z F.length ac,.slice Y R.length ab],.bool ok]∧own' =[mb,mc,ms.flatten]∧Own 3 1 (.slice Z F.length ac) F.length (a8 F) mb∧Own 25 1 (.slice Y R.length ab) R.length (R.map fI) mc∧RowsI 3 (bJ R) (R.map fI) ms∧(ok=true→∃ n:Nat,N=(n:Int)∧NestOk n l F (bJ R))):=by
 refine bG Tryz.func8 rfl Tryz.ntmps8 rfl Owns.nil<|aG fun kh1=>f_S (cZ rfl rfl fun b2=>?_)
 refine f_S (cZ rfl rfl fun b3=>?_);refine f_S (cX Tryz.zeroValue34 rfl fun b4=>?_);refine aB 1 rfl<|aD kh1<|aV fun kh2=>aG fun kh3=>cN fa27_1 rfl<|c7 Tryz.isAgg25 rfl (rdA rfl)<|dY bU rfl<|aB 2 rfl<|eA 12 rfl (fun g12=>?_) (fun g12=>?_)
 ·refine aB 4 rfl<|aD kh3<|eW rfl<|aG fun kh4=>f_Q (dU st34 rfl rfl)<|f_Z (bS Tryz.sizeOf34 rfl rfl rfl rfl cG [.slice none 0 0,.slice none 0 0] rfl ?_)
  refine aB 1 rfl<|aD kh4<|aZ<|dA ?_
  exact gT (vs:=[.slice none 0 0,.slice none 0 0]) [[],[],([]:List Seg).flatten] Tryz.results8 rfl Tryz.isAgg34 Tryz.sizeOf34 rfl ⟨(rdA rfl),(rdA rfl),trivial⟩ rfl aC ⟨false,[],[],none,none,0,0,[],[],[],rfl,rfl,Own.nil _ _,Own.nil _ _,⟨rfl,rfl,fun i h=>by simp [bJ] at h⟩,fun h=>by cases h⟩
 ·refine eI rfl rfl (aT fa27_2 rfl)<|eI rfl rfl (aH Tryz.isAgg3 rfl (rdA rfl))<|aB 2 rfl<|aD kh3<|aX rfl (fun c16=>?_) (fun c16=>?_)
  ·refine aG fun am=>f_Q (dU st34 rfl rfl)<|f_Z (bS Tryz.sizeOf34 rfl rfl rfl rfl cG [.slice none 0 0,.slice none 0 0] rfl ?_)
   refine aB 1 rfl<|aD am<|aZ<|dA ?_
   exact gT (vs:=[.slice none 0 0,.slice none 0 0]) [[],[],([]:List Seg).flatten] Tryz.results8 rfl Tryz.isAgg34 Tryz.sizeOf34 rfl ⟨(rdA rfl),(rdA rfl),trivial⟩ rfl aC ⟨false,[],[],none,none,0,0,[],[],[],rfl,rfl,Own.nil _ _,Own.nil _ _,⟨rfl,rfl,fun i h=>by simp [bJ] at h⟩,fun h=>by cases h⟩
  ·refine bZ kh2<|aG fun kh6=>f_Q (aQ (vs:=[_,_]) Tryz.isAgg24 Tryz.sizeOf24 rfl rfl ⟨(rdA rfl),(rdA rfl),trivial⟩)<|cN fa27_0 rfl<|c7 Tryz.isAgg25 rfl (rdA rfl)<|cN fa27_1 rfl<|c7 Tryz.isAgg25 rfl (rdA rfl)<|cN fa27_2 rfl<|c7 Tryz.isAgg3 rfl (rdA rfl) ?_
   refine f_S (aW Tryz.call18 rfl (fun w_ X=>Make_spec N A l cap B bs bc C cs cc mv w_ (hr.up0 X) hl hN hok (hB.up0 X) aA (hC.up0 X) aj ai) ?_);rintro _ _ ⟨J,L,R,Z,Y,U,O,mb,mc,ms,rfl,rfl,ae,ag,ah,ad,ao,ak⟩;subst ad;dsimp only [aK,aJ];refine aB 3 rfl<|f_S (cX Tryz.zeroValue34 rfl fun b6=>?_)
   refine f_Z (bS Tryz.sizeOf34 rfl rfl rfl rfl cG [.slice Z J.length U,.slice Y R.length O] rfl ?_);refine aB 1 rfl<|aD kh6<|aG fun kh7=>f_Q (aQ (vs:=[_,_]) Tryz.isAgg34 Tryz.sizeOf34 rfl rfl ⟨(rdA rfl),(rdA rfl),trivial⟩)<|aB 2 rfl<|f_Z (bS Tryz.sizeOf34 rfl rfl rfl rfl cG [.slice Z J.length U,.slice Y R.length O] rfl ?_)
   refine aB 1 rfl<|aD kh7<|aZ ?_
   exact gT (vs:=[.slice Z J.length U,.slice Y R.length O]) [mb,mc,ms.flatten] Tryz.results8 rfl Tryz.isAgg34 Tryz.sizeOf34 rfl ⟨(rdA rfl),(rdA rfl),trivial⟩ rfl aC ⟨_,J,R,Z,Y,U,O,mb,mc,ms,rfl,rfl,ae,ag,ah,fun h=>by
     have hz:plE N l bs cs mv=0:=of_decide_eq_true h
     obtain ⟨rfl,an,aa⟩:=ak hz
     obtain ⟨n,rfl,al⟩:=plE_zero hz
     rw [Int.toNat_natCast] at aa
     exact ⟨n,rfl,made_ok al aa an⟩⟩
theorem rdRow {S:Nat→Prop} {w0:World} {segs:List Seg} {b k O:Nat} {R:List Row} {L:List Int} {sp:List Value} {E:TypeId} {f:Seg→List Seg} [At segs b (blk (R.map fI++sp) E) f] (hk:k<R.length) (F:R[k].1=some ⟨O,0,none⟩) (J:R[k].2.1=L):Rd S w0 segs b k (.slice (some ⟨O,0,none⟩) L.length R[k].2.2):=by
 subst J;rw [← F];exact rdA (d7 (by rw [List.getElem?_map,List.getElem?_eq_getElem hk];rfl))
theorem TopBoundary_spec (N:Int) (A:Option Addr) (l:List Arc) (cap:Nat) (B:Option Addr) (bs:List Int) (bc:Nat) (C:Option Addr) (cz:List Int) (cc:Nat) (mv s t:Int) (w:World) (hr:Ro (Fr w []) w A (l.flatMap cH)) (hl:l.length≤9223372036854775807) (hN:I64 N) (hok:∀ x∈l,eN x) (hB:Ro (Fr w []) w B (a8 bs)) (cg:bs.length≤bc∧bc≤9223372036854775807) (hC:Ro (Fr w []) w C (a8 cz)) (bq:cz.length≤9223372036854775807):
    Meets Tryz.prog 3 [.agg #[.int .i64 N,.slice A l.length cap],.agg #[.slice B bs.length bc,.slice C cz.length cc,.int .i64 mv],.agg #[.int .i64 s,.int .i64 t]] w [] (fun u m=>u= .bool true∧m=[]):=by
 refine bG Tryz.func3 rfl Tryz.ntmps3 rfl Owns.nil<|aG fun kh1=>f_S (cZ rfl rfl fun b3=>?_)
 refine f_S (cZ rfl rfl fun b4=>?_);refine f_S (cZ rfl rfl fun b5=>?_);refine aB 1 rfl<|aD kh1<|aV fun kh2=>cQ [[(b5,blk [.int .i64 s,.int .i64 t] 29)]] rfl<|f_T 0 rfl (aT fa29_0 rfl)<|f_T 1 rfl (aH Tryz.isAgg3 rfl (rdA rfl))<|f_T 2 rfl (aT fa29_1 rfl)<|f_T 3 rfl (aH Tryz.isAgg3 rfl (rdA rfl))<|f_T 4 rfl (bI rfl)<|f_T 5 rfl (bI rfl) ?_
 refine cO aU<|bP kh2<|aV fun kh3=>aG fun kh4=>?_
 refine f_S (aW Tryz.call5 rfl (fun X F=>routed_spec X) ?_);rintro _ _ ⟨rfl,rfl⟩;dsimp only [aK,aJ];refine aB 1 rfl<|aD kh4<|h7 rfl<|bZ kh3<|aV fun kh5=>aG fun kh6=>f_Q (aQ (vs:=[_,_]) Tryz.isAgg24 Tryz.sizeOf24 rfl rfl ⟨(rdA rfl),(rdA rfl),trivial⟩) ?_
 refine f_S (aW Tryz.call6 rfl (fun X F=>tlarge_spec N A l cap X hl hN) ?_);rintro _ _ ⟨bL,rfl,rfl,cn⟩;dsimp only [aK,aJ];refine aB 1 rfl<|nD 34 rfl (fun g34=>?_) (fun g34=>?_)
 ·refine aB 24 rfl<|aD kh6<|eW rfl<|aG fun kh7=>aB 1 rfl<|aD kh7<|aZ<|dA ?_
  exact bO [] Tryz.results3 rfl aP ⟨rfl,rfl⟩
 ·refine eI rfl rfl (aQ (vs:=[_,_]) Tryz.isAgg24 Tryz.sizeOf24 rfl rfl ⟨(rdA rfl),(rdA rfl),trivial⟩) ?_;refine k9 rfl rfl rfl rfl rfl (aW Tryz.call7 rfl (fun X F=>tright_spec N A l cap X (hr.up0 F) hl hN hok) ?_);rintro _ _ ⟨bR,rfl,rfl,b2⟩;dsimp only [aK,aJ];refine aB 3 rfl<|nD 39 rfl (fun g39=>?_) (fun g39=>?_)
  ·refine aB 19 rfl<|aD kh6<|eW rfl<|aG fun kh8=>aB 1 rfl<|aD kh8<|aZ<|dA ?_
   exact bO [] Tryz.results3 rfl aP ⟨rfl,rfl⟩
  ·refine aB 4 rfl<|eA 43 rfl (fun g43=>?_) (fun g43=>?_)
   ·refine aB 15 rfl<|aD kh6<|eW rfl<|aG fun kh9=>aB 1 rfl<|aD kh9<|aZ<|dA ?_
    exact bO [] Tryz.results3 rfl aP ⟨rfl,rfl⟩
   ·refine aB 1 rfl<|eI rfl rfl (aT eV rfl)<|eI rfl rfl (aH Tryz.isAgg3 rfl (rdA rfl))<|aB 3 rfl<|eA 49 rfl (fun g49=>?_) (fun g49=>?_)
    ·refine aB 9 rfl<|aD kh6<|eW rfl<|aG fun kh10=>aB 1 rfl<|aD kh10<|aZ<|dA ?_
     exact bO [] Tryz.results3 rfl aP ⟨rfl,rfl⟩
    ·refine aB 4 rfl<|eA 53 rfl (fun g53=>?_) (fun g53=>?_)
     ·refine aB 5 rfl<|aD kh6<|eW rfl<|aG fun kh11=>aB 1 rfl<|aD kh11<|aZ<|dA ?_
      exact bO [] Tryz.results3 rfl aP ⟨rfl,rfl⟩
     ·refine aB 1 rfl<|eI rfl rfl (aT eV rfl)<|eI rfl rfl (aH Tryz.isAgg3 rfl (rdA rfl))<|aB 2 rfl<|aD kh6<|aX rfl (fun c58=>?_) (fun c58=>?_)
      ·refine aG fun ao=>aB 1 rfl<|aD ao<|aZ<|dA ?_
       exact bO [] Tryz.results3 rfl aP ⟨rfl,rfl⟩
      ·have ag:(cL N l).2=0:=b2 (by simpa using g39)
       obtain ⟨n,rfl⟩:∃ n:Nat,N=n:=⟨N.toNat,aA⟩
       obtain ⟨s,rfl⟩:∃ k:Nat,s=k:=⟨s.toNat,aA⟩
       obtain ⟨t,rfl⟩:∃ k:Nat,t=k:=⟨t.toNat,aA⟩
       obtain ⟨cp,cr,hlen,ak⟩:=cF ag
       have bf:s<n:=aA
       have co:t<n:=aA
       have bu:∀ x∈l,0≤x.wt:=fun x hx=>(hok x hx).wt.1
       have bB:fV (n:Int) l [(s:Int)]=0:=by unfold fV;rw [if_neg (by rw [ag];simp),if_neg (by simp;omega)]
       have ar:fV (n:Int) l [(t:Int)]=0:=by unfold fV;rw [if_neg (by rw [ag];simp),if_neg (by simp;omega)]
       have aj:fV (n:Int) l [(s:Int),(t:Int)]=0:=by unfold fV;rw [if_neg (by rw [ag];simp),if_neg (by simp;omega)]
       refine bZ kh5<|aG fun kh13=>f_Q (aQ (vs:=[_,_]) Tryz.isAgg24 Tryz.sizeOf24 rfl rfl ⟨(rdA rfl),(rdA rfl),trivial⟩)<|f_Q (aQ (vs:=[_,_,_]) Tryz.isAgg27 Tryz.sizeOf27 rfl rfl ⟨(rdA rfl),(rdA rfl),(rdA rfl),trivial⟩) ?_
       refine f_S (aW Tryz.call8 rfl (fun X F=>drawn_spec (n:Int) A l cap B bs bc C cz cc mv X (hr.up0 F) hl hN hok (hB.up0 F) cg (hC.up0 F) bq) ?_);rintro _ _ ⟨cj,U,R,Ab,Ac,ab,Y,mb,mc,ms,rfl,rfl,ce,aw,ax,b8⟩;dsimp only [aK,aJ];refine aB 3 rfl<|f_S (cX Tryz.zeroValue34 rfl fun b9=>?_)
       refine f_Z (bS Tryz.sizeOf34 rfl rfl rfl rfl cG [.slice Ab U.length ab,.slice Ac R.length Y] rfl ?_);refine aB 1 rfl<|aD kh13<|aV fun kh14=>aG fun kh15=>aB 2 rfl<|aD kh15<|e8 rfl (fun c66=>?_) (fun c66=>?_)
       ·refine aG fun a1=>aB 1 rfl<|aD a1<|aZ<|dA ?_
        exact bO [] Tryz.results3 rfl aP ⟨rfl,rfl⟩
       ·obtain ⟨n',ci,ad⟩:=b8 (by simpa using c66)
        obtain rfl:n=n' :=aA
        have bv:=ad.len
        rw [eZ] at bv;have bp:=ad.many
        obtain ⟨bC,an,rfl,rfl⟩:=aw.at_ aA
        refine bZ kh14<|aV fun kh17=>aG fun bg=>aB 1 rfl<|aD bg<|aS ?_
        refine dF (α:=Nat) [3,7,8,9] (fun k=>[(11,.int .i64 ((k:Int)+1))]) (fun k=>[[(b9,blk [.slice Ab U.length ab,.slice (some ⟨bC,0,none⟩) R.length Y] 34)],mb,[(bC,blk (R.map fI++an) 25)],ms.flatten,[(b3,blk [.int .i64 (n:Int),.slice A l.length cap] 24)]]) (fun k=>k≤U.length) (fun k=>U.length - k) (0) ?_ ?_ ?_ ?_
        ·exact aF
        ·exact aC
        ·exact Nat.zero_le _
        ·rintro k cB;refine aV fun ay=>aG fun kh20=>aB 1 rfl<|cN fa34_0 rfl<|c7 Tryz.isAgg25 rfl (rdA rfl)<|dY bU rfl<|aB 1 rfl<|aD kh20<|aX rfl (fun c71=>?_) (fun c71=>?_)
         ·have hk:k<U.length:=aA
          have J:k<R.length:=aA
          obtain ⟨L,ai⟩:∃ L,(bJ R).getD k []=L:=⟨_,rfl⟩
          have bD:=ad.rowlen hk
          have Z : (R[k]'J).2.1 = L := by rw [← iV J]; exact ai
          rw [ai] at bD;obtain ⟨br,ck,am,ae⟩:=row_in ax J rfl (by rw [Z];omega)
          rw [Z] at ae;refine bZ ay<|aV fun kh21=>aS<|aG fun kh22=>cN jF rfl<|c7 Tryz.isAgg32 rfl (rdA rfl)<|aB 1 rfl<|f_Q (j5 rfl rfl _ (Eq.trans (d8 aA) (show _=(k:Int) by omega))) ?_
          refine f_Q (aM g5 rfl rfl (k)) <| f_Q (aH Tryz.isAgg25 rfl (v := .slice (some ⟨br, 0, none⟩) L.length (R[k]'J).2.2) (rdRow J am Z)) <| aB 1 rfl <| f_Q (aM bU rfl rfl (s)) <| f_Q (aH Tryz.isAgg3 rfl (rdIn ae (show (a8 L)[s]? = some (.int .i64 L[s]) from d9 aA))) <| aB 1 rfl <| aD kh22 <| aV fun kh23 => aG fun kh24 => cN jF rfl ?_
          refine c7 Tryz.isAgg32 rfl (rdA rfl)<|aB 1 rfl<|f_Q (j5 rfl rfl _ (Eq.trans (d8 aA) (show _=(k:Int) by omega))) ?_
          refine f_Q (aM g5 rfl rfl (k)) <| f_Q (aH Tryz.isAgg25 rfl (v := .slice (some ⟨br, 0, none⟩) L.length (R[k]'J).2.2) (rdRow J am Z)) <| aB 1 rfl <| f_Q (aM bU rfl rfl (t)) <| f_Q (aH Tryz.isAgg3 rfl (rdIn ae (show (a8 L)[t]? = some (.int .i64 L[t]) from d9 aA))) <| aB 2 rfl <| aD kh24 <| aX rfl (fun c93 => ?_) (fun c93 => ?_)
          ·refine cS<|cU<|eH<|bP kh21<|aI<|aB 1 rfl<|f_Q (bF rfl rfl)<|aB 1 rfl<|aY ?_
           refine cV (a6 (k+1) (by first|omega|(dsimp only;omega)|(simp;omega)) aA ?_ ?_ ?_)
           ·exact aF
           ·exact aF
           ·exact aC
          ·obtain ⟨c, hc⟩ : ∃ c, L[s]'aA = c := ⟨_, rfl⟩
           have ah:c=L.getD s 0:=by rw [← hc,eJ aA]
           have b1:L.getD t 0≠c:=by rw [eJ aA,← hc];exact c93
           have av:clE (n:Int) l U (bJ R) ((k:Int)+1) c=0:=by rw [ah,← ai];exact cl_zero ad hk bf rfl
           rw [hc];refine bZ kh23<|aG fun kh25=>cN eV rfl<|c7 Tryz.isAgg3 rfl (rdA rfl)<|f_S (e6 el37 rfl rfl n rfl aA aA ((mV L c n 0).map .bool) (by rw [inTo_zero,List.map_replicate];exact (rep_flatC n _).symm) fun b96=>?_)
           refine aB 1 rfl<|aD kh25<|aV fun kh26=>aG fun bi=>aB 1 rfl<|dY n4 rfl<|aB 1 rfl<|aD bi<|aS ?_
           refine dF (α:=Nat) [3,7,8,9,11,12,13,98] (fun x=>[(99,.int .i64 (x:Int))]) (fun x=>[[(b96,blk ((mV L c n x).map .bool) 4)],[(b9,blk [.slice Ab U.length ab,.slice (some ⟨bC,0,none⟩) R.length Y] 34)],mb,[(bC,blk (R.map fI++an) 25)],ms.flatten,[(b3,blk [.int .i64 (n:Int),.slice A l.length cap] 24)]]) (fun x=>x≤n) (fun x=>n - x) (0) ?_ ?_ ?_ ?_
           ·exact aF
           ·exact aC
           ·exact Nat.zero_le _
           ·rintro x cm;refine fJ (e:=[(99,_),(3,_),(7,_),(8,_),(9,_),(11,_),(12,_),(13,_),(98,_)]) aF ?_;refine aG fun kh28=>aB 1 rfl<|aD kh28<|aV fun kh29=>aX rfl (fun be=>?_) (fun be=>?_)
            ·have hx:x<n:=aA
             have b7:=inTo_next (L:=L) (c:=c) (n:=n) (k:=x) aA
             refine bZ kh29<|aV fun kh30=>aS<|aG fun kh31=>aB 2 rfl<|aD kh31<|aI<|aB 2 rfl<|cN jF rfl<|c7 Tryz.isAgg32 rfl (rdA rfl) ?_
             refine aB 1 rfl<|f_Q (j5 rfl rfl _ (Eq.trans (d8 aA) (show _=(k:Int) by omega))) ?_
             refine f_Q (aM g5 rfl rfl (k)) <| f_Q (aH Tryz.isAgg25 rfl (v := .slice (some ⟨br, 0, none⟩) L.length (R[k]'J).2.2) (rdRow J am Z)) <| aB 1 rfl <| f_Q (aM bU rfl rfl (x)) <| f_Q (aH Tryz.isAgg3 rfl (rdIn ae (show (a8 L)[x]? = some (.int .i64 L[x]) from d9 aA))) <| aB 2 rfl <| f_Q (aM n4 rfl rfl (x)) <| f_Z (bQ Tryz.sizeOf4 rfl rfl rfl rfl (by rw [List.length_map, pX]; omega) ((mV L c n (x + 1)).map .bool) (by rw [← b7, List.map_set, eJ aA]) ?_)
             refine aY<|dI<|bP kh30<|aI<|f_Q (bF rfl rfl)<|aB 1 rfl<|aY ?_
             refine cV (a6 (x+1) (by first|omega|(dsimp only;omega)|(simp;omega)) aA ?_ ?_ ?_)
             ·exact aF
             ·exact aF
             ·exact aC
            ·obtain rfl:n=x:=aA
             refine cS<|cU<|cU<|eH<|bP kh26<|aG fun kh32=>f_Q (aQ (vs:=[_,_]) Tryz.isAgg24 Tryz.sizeOf24 rfl rfl ⟨(rdA rfl),(rdA rfl),trivial⟩)<|f_Q (aQ (vs:=[_,_]) Tryz.isAgg34 Tryz.sizeOf34 rfl rfl ⟨(rdA rfl),(rdA rfl),trivial⟩)<|aB 2 rfl ?_
             refine f_S (aW Tryz.call9 rfl (fun X F=>i8 (n:Int) A l cap Ab U ab (some ⟨bC,0,none⟩) R Y ((k:Int)+1) c X (hr.up0 F) hl hN hok (nest_ro F ce aw ax rfl aA)) ?_);rintro _ _ ⟨M,AE,cE,mE,rfl,rfl,b6,_,cd⟩;obtain hE:M=bdL L c l:=by rw [cd av,show (((k:Int)+1).toNat - 1)=k by omega,ai]
             rw [av];have al:=fun (v:Int) (h:v∈bdL L c l)=>nA (n:=n) ak h
             have bw:=nX L c l
             rw [← hE] at al bw;dsimp only [aK,aJ];refine aB 5 rfl<|aD kh32<|aG fun kh33=>f_Q (aQ (vs:=[_,_]) Tryz.isAgg24 Tryz.sizeOf24 rfl rfl ⟨(rdA rfl),(rdA rfl),trivial⟩)<|aB 2 rfl ?_
             refine f_S (aW Tryz.call10 rfl (fun X F=>(by have h:=WithinB_spec (n:Int) A l cap (s:Int) (some ⟨b96,0,none⟩) (mV L c n n) n X (hr.up0 F) (fK (b:=b96) F (fun j v hj=>hj)) hl hN hok;rw [pX] at h;exact h)) ?_);rintro _ _ ⟨vW,mW,W,rfl,rfl,bj,_,bK⟩;have a2:oY (n:Int) l (s:Int) (mV L c n n).length=0:=by unfold oY;rw [pX,if_neg (by rw [bB];simp),if_neg aA]
             rw [a2];have hW:=bK a2
             rw [Int.toNat_natCast,Int.toNat_natCast,if_pos (by rw [inTo_at bf];simpa using ah.symm)] at hW;obtain ⟨hW,cf⟩:=hW
             have cy:=hW.len
             have bt:=fun v (hv:v<n)=>within_row ak ah.symm hW hv
             obtain ⟨AW,cW,rfl,cu⟩:=bj.val
             obtain ⟨bW,aq,rfl,rfl⟩:=bj.at_ aA
             dsimp only [aK,aJ];refine aB 5 rfl<|aD kh33<|aG fun kh34=>f_Q (aQ (vs:=[_,_]) Tryz.isAgg24 Tryz.sizeOf24 rfl rfl ⟨(rdA rfl),(rdA rfl),trivial⟩)<|aB 1 rfl ?_
             refine f_S (aW Tryz.call11 rfl (fun X F=>To_spec (n:Int) A l cap (t:Int) X (hr.up0 F) hl hN hok) ?_);rintro _ _ ⟨vT,mT,T,rfl,rfl,au,_,bM⟩;rw [ar];obtain ⟨hT,az⟩:=bM ar
             rw [Int.toNat_natCast] at hT az;rw [Int.toNat_natCast] at hT;have ct:=hT.len
             have bY:∀ v,v<n→IsB l iM v t (dg T v):=fun v hv=>by have h:=(hT.isB hv).turn;rwa [Bool.not_true,lD] at h
             obtain ⟨AT,cT,rfl,cq⟩:=au.val
             obtain ⟨bT,ap,rfl,rfl⟩:=au.at_ aA
             dsimp only [aK,aJ];refine aB 5 rfl<|aD kh34<|aG fun kh35=>f_Q (aQ (vs:=[_,_]) Tryz.isAgg24 Tryz.sizeOf24 rfl rfl ⟨(rdA rfl),(rdA rfl),trivial⟩)<|aB 2 rfl ?_
             refine f_S (aW Tryz.call12 rfl (fun X F=>Between_spec (n:Int) A l cap (s:Int) (t:Int) X (hr.up0 F) hl hN hok) ?_);rintro _ _ ⟨x,rfl,rfl,_,bk⟩;rw [aj];obtain ⟨cv,hx⟩:=bk aj
             rw [Int.toNat_natCast,Int.toNat_natCast,lD] at hx;have aa:=best_ok (W:=W) (T:=T) ak bu ah.symm b1 bt bY hx
             rw [← hE] at aa;dsimp only [aK,aJ];refine aB 5 rfl<|aD kh35<|aV fun kh36=>aG fun kh37=>aB 3 rfl<|i4 147 rfl aO<|aB 4 rfl<|i4 151 rfl aO<|aB 4 rfl<|i4 155 rfl aO ?_
             refine aB 3 rfl<|aD kh37<|d4 rfl aO<|bZ kh36<|aG fun kh38=>aB 1 rfl<|aD kh38<|aV fun kh39=>aG fun ba=>aB 1 rfl ?_
             refine dY bU rfl<|aB 1 rfl<|aD ba<|aS ?_
             refine dF (α:=Nat×Int) [3,7,8,9,11,17,19,21,159,160] (fun ⟨i,O⟩=>[(161,.int .i64 (i:Int)),(23,.int .u64 O)]) (fun ⟨i,O⟩=>[mE,[(bW,blk (eT W++aq) 46)],[(bT,blk (eT T++ap) 46)],[(b9,blk [.slice Ab U.length ab,.slice (some ⟨bC,0,none⟩) R.length Y] 34)],mb,[(bC,blk (R.map fI++an) 25)],ms.flatten,[(b3,blk [.int .i64 (n:Int),.slice A l.length cap] 24)]]) (fun ⟨i,O⟩=>i≤M.length∧O=bestV W T (M.take i)) (fun ⟨i,O⟩=>M.length - i) (0,INF) ?_ ?_ ?_ ?_
             ·exact aF
             ·exact aC
             ·exact ⟨Nat.zero_le _,rfl⟩
             ·rintro ⟨i,O⟩ ⟨cw,hbv⟩;refine fJ (e:=[(161,_),(23,_),(3,_),(7,_),(8,_),(9,_),(11,_),(17,_),(19,_),(21,_),(159,_),(160,_)]) aF ?_;refine aG fun kh41=>aB 1 rfl<|aD kh41<|aV fun kh42=>aX rfl (fun bh=>?_) (fun bh=>?_)
              ·have hi:i<M.length:=aA
               obtain ⟨v,hv,ac⟩:∃ v:Nat,M[i]=(v:Int)∧v<n:=⟨M[i].toNat,by have:=al _ (List.getElem_mem hi);omega,by have:=al _ (List.getElem_mem hi);omega⟩
               obtain ⟨bE,spE,rfl,rfl⟩:=b6.at_ aA
               have hnb:bestV W T (M.take (i+1))=if dg W v<INF∧dg T v<INF then min (bestV W T (M.take i)) (dg W v+dg T v) else bestV W T (M.take i):=by rw [List.take_succ_eq_append_getElem hi,bestV_snoc,hv,Int.toNat_natCast]
               refine bZ kh42<|aV fun kh43=>aS<|aG fun kh44=>f_Q (aM bU rfl rfl (i))<|f_Q (aH Tryz.isAgg3 rfl (rdA (v:= .int .i64 (v:Int)) (d7 (by rw [d9 hi,hv])))) ?_
               refine aB 1 rfl<|aD kh44<|aG fun kh45=>aB 2 rfl<|f_Q (aM j6 rfl rfl (v))<|f_Q (aH Tryz.isAgg46 rfl (rdA (d7 (iE (mF aA)))))<|aB 2 rfl<|eA 170 rfl (fun g170=>?_) (fun g170=>?_)
               ·refine aB 2 rfl<|eI rfl rfl (aM j6 rfl rfl (v))<|eI rfl rfl (aH Tryz.isAgg46 rfl (rdA (d7 (iE (mF aA)))))<|aB 2 rfl<|aD kh45<|aX rfl (fun c176=>?_) (fun c176=>?_)
                ·refine cQ [[(bW,blk (eT W++aq) 46)],[(bT,blk (eT T++ap) 46)]] rfl<|f_T 0 rfl (aR rfl)<|f_T 1 rfl (aR rfl)<|f_T 2 rfl (aR rfl)<|f_T 3 rfl (aM j6 rfl rfl (v))<|f_T 4 rfl (aH Tryz.isAgg46 rfl (rdA (d7 (iE (mF aA)))))<|f_T 5 rfl (aR rfl)<|f_T 6 rfl (aR rfl)<|f_T 7 rfl (aM j6 rfl rfl (v))<|f_T 8 rfl (aH Tryz.isAgg46 rfl (rdA (d7 (iE (mF aA))))) ?_
                 refine f_T 9 rfl (kY rfl rfl _ (iS (by have h1:=cf v ac (by assumption);have h2:=az v ac (by assumption);have h3:=hW.rng v ac;have h4:=hT.rng v ac;omega))) ?_;refine f_T 10 rfl (oH rfl rfl)<|f_O 11 rfl ((bI rfl).does ⟨aC,?_⟩)
                 refine cO aU<|dI<|bP kh43<|aI<|f_Q (bF rfl rfl)<|aB 1 rfl<|aY ?_
                 refine cV (a6 (i+1,min O (dg W v+dg T v)) (by first|omega|(dsimp only;omega)|(simp;omega)) ⟨aA,by rw [hnb,if_pos ⟨g170,c176⟩,← hbv]⟩ ?_ ?_ ?_)
                 ·exact aF
                 ·exact aF
                 ·exact aC
                ·refine dZ<|dI<|bP kh43<|aI<|f_Q (bF rfl rfl)<|aB 1 rfl<|aY ?_
                 refine cV (a6 (i+1,O) (by first|omega|(dsimp only;omega)|(simp;omega)) ⟨aA,by rw [hnb,if_neg (fun h=>c176 h.2)];exact hbv⟩ ?_ ?_ ?_)
                 ·exact aF
                 ·exact aF
                 ·exact aC
               ·refine aB 6 rfl<|aD kh45<|h7 rfl<|dZ<|dI<|bP kh43<|aI<|f_Q (bF rfl rfl)<|aB 1 rfl<|aY ?_
                refine cV (a6 (i+1,O) (by first|omega|(dsimp only;omega)|(simp;omega)) ⟨aA,by rw [hnb,if_neg (fun h=>g170 h.1)];exact hbv⟩ ?_ ?_ ?_)
                ·exact aF
                ·exact aF
                ·exact aC
              ·obtain rfl:i=M.length:=aA
               rw [List.take_length] at hbv;refine cS<|cU<|cU<|eH<|bP kh39<|aG fun kh46=>aB 3 rfl<|aD kh46<|d4 rfl (by rw [hbv,aa];simp) ?_
               refine dZ<|dI<|bP kh21<|aI<|aB 1 rfl<|f_Q (bF rfl rfl)<|aB 1 rfl<|aY ?_
               refine cV (a6 (k+1) (by first|omega|(dsimp only;omega)|(simp;omega)) aA ?_ ?_ ?_)
               ·exact aF
               ·exact aF
               ·exact aC
         ·refine cS<|cU<|cU<|eH<|bP kh17<|aG fun kh47=>aB 1 rfl<|aD kh47<|aZ ?_
          exact bO [] Tryz.results3 rfl aP ⟨rfl,rfl⟩
theorem rdArc {H:Type} {enc:TypeId×Value→H} (W:World):Reads enc Tryz.prog W 69 cH eN:=
 reads_arc Tryz.underlying69 (by kernel_rfl) ⟨rfl,by kernel_rfl⟩ ⟨rfl,by kernel_rfl⟩ ⟨rfl,by kernel_rfl⟩ Tryz.underlying3 Tryz.underlying3 Tryz.underlying56
theorem rdGraph {H:Type} {enc:TypeId×Value→H} (W:World):Reads enc Tryz.prog W 24 (fun x:Int×Option Addr×List Arc×Nat=>[.int .i64 x.1,.slice x.2.1 x.2.2.1.length x.2.2.2]) (fun x=>GrIn W x.1 x.2.1 x.2.2.1 x.2.2.2):=
 reads_graph Tryz.underlying24 (by kernel_rfl) ⟨rfl,by kernel_rfl⟩ ⟨rfl,by kernel_rfl⟩ Tryz.underlying3 Tryz.underlying22 (by kernel_rfl) (rdArc W)
theorem rdDraw {H:Type} {enc:TypeId×Value→H} (W:World):Reads enc Tryz.prog W 27 (fun x:(Option Addr×List Int×Nat)×(Option Addr×List Int×Nat)×Int=>[.slice x.1.1 x.1.2.1.length x.1.2.2,.slice x.2.1.1 x.2.1.2.1.length x.2.1.2.2,.int .i64 x.2.2]) (fun x=>SlIn W (fun n:Int=>[.int .i64 n]) I64 x.1.1 x.1.2.1 x.1.2.2∧SlIn W (fun n:Int=>[.int .i64 n]) I64 x.2.1.1 x.2.1.2.1 x.2.1.2.2∧I64 x.2.2):=
 reads3 (ca:=fun x:Option Addr×List Int×Nat=> .slice x.1 x.2.1.length x.2.2) (cb:=fun x:Option Addr×List Int×Nat=> .slice x.1 x.2.1.length x.2.2) (cc:=fun n=> .int .i64 n) Tryz.underlying27 (by kernel_rfl) ⟨rfl,by kernel_rfl⟩ ⟨rfl,by kernel_rfl⟩ ⟨rfl,by kernel_rfl⟩
  (reads_slice (cells:=fun n:Int=>[.int .i64 n]) (sz:=1) Tryz.underlying25 (by kernel_rfl) (fun _=>rfl) aA (pE Tryz.underlying3))
  (reads_slice (cells:=fun n:Int=>[.int .i64 n]) (sz:=1) Tryz.underlying25 (by kernel_rfl) (fun _=>rfl) aA (pE Tryz.underlying3)) (pE Tryz.underlying3)
theorem rdTwo {H:Type} {enc:TypeId×Value→H} (W:World):Reads enc Tryz.prog W 29 (fun x:Int×Int=>[.int .i64 x.1,.int .i64 x.2]) (fun x=>I64 x.1∧I64 x.2):=
 reads2 Tryz.underlying29 (by kernel_rfl) ⟨rfl,by kernel_rfl⟩ ⟨rfl,by kernel_rfl⟩ (ca:=fun n=> .int .i64 n) (cb:=fun n=> .int .i64 n) (pE Tryz.underlying3) (pE Tryz.underlying3)
end Go.Proofs.YthpkelafioikaaaGreat
