import Derived.Test.YthpkelafioikaaaGreatFlyRun
import Derived.Test.YthpkelafioikaaaGreatAll2
import Derived.Test.YthpkelafioikaaaGreatAll10
import Derived.Test.YthpkelafioikaaaGreatAll1
import Derived.Test.YthpkelafioikaaaGreatAll0
import Derived.Test.YthpkelafioikaaaGreatAll3
namespace Go.Proofs.YthpkelafioikaaaGreat
open Go Go.RowKit Fly
set_option maxRecDepth 100000
set_option maxHeartbeats 4000000
set_option linter.all false
theorem mput_len {α:Type} [DecidableEq α] (x:α) (v:Value) (c:Nat):∀ l:List (α×Value×Nat),(fW l x v c).length≤l.length+1
 |[]=>by simp [fW]
 |e::r=>by
  have:=mput_len x v c r
  unfold fW;split
  ·simp
  ·simp;omega
theorem mget_mem {α:Type} [DecidableEq α] {e:α×Value×Nat}:∀ {l:List (α×Value×Nat)},(l.map (·.1)).Nodup→e∈l→eS l e.1=some e.2.1
 |f::l,hn,h=>by
  rw [List.map_cons,List.nodup_cons] at hn
  rcases List.mem_cons.1 h with rfl|h
  ·simp [eS]
  ·unfold eS
   rw [if_neg (fun e' =>hn.1 (by rw [← e'];exact List.mem_map.2 ⟨e,h,rfl⟩))];exact mget_mem hn.2 h
theorem mget_app {α:Type} [DecidableEq α] (x:α) (z:Value) (c:Nat):∀ l:List (α×Value×Nat),eS l x=none→eS (l++[(x,z,c)]) x=some z
 |[],_=>by simp [eS]
 |e::r,h=>by
  unfold eS at h
  split at h
  ·cases h
  ·rename_i F
   rw [List.cons_append];unfold eS;rw [if_neg F];exact mget_app x z c r h
theorem ment_val {α:Type} [DecidableEq α] (l:List (α×Value×Nat)) (x:α) (z:Value) (c:Nat):(eS (n5 l x z c) x).getD z=(eS l x).getD z:=by
 unfold n5
 split
 ·rfl
 ·rename_i h
  have h' :eS l x=none:=by cases hg:eS l x with
   |none=>rfl
   |some v=>rw [hg] at h;simp at h
  rw [mget_app x z c l h',h'];rfl
def mL (L:List Int) (p:Pr):Int×Int:=(min (lab L p.1) (lab L p.2),max (lab L p.1) (lab L p.2))
def okP (L:List Int) (bd:Int) (p:Pr):Bool:=decide (lab L p.1≠lab L p.2∧(gJ L (lab L p.1):Int)+gJ L (lab L p.2)≤bd)
def cntK (ps:List Pr) (L:List Int) (k:Int×Int):Nat:=(ps.filter fun p=>decide (mL L p=k)).length
def smL (ps:List Pr) (L:List Int) (bd:Int):List Sm:=(ps.filter (okP L bd)).map fun p=>((mL L p).1,(mL L p).2,(cntK ps L (mL L p):Int))
theorem okP_same {L:List Int} {bd:Int} {p q:Pr} (h:okP L bd p=true) (e:mL L p=mL L q):okP L bd q=true:=by
 unfold okP at h ⊢
 unfold mL at e
 simp only [decide_eq_true_eq,Prod.mk.injEq] at h e ⊢;have:(lab L q.1=lab L p.1∧lab L q.2=lab L p.2)∨(lab L q.1=lab L p.2∧lab L q.2=lab L p.1):=aA
 rcases this with ⟨e1,e2⟩|⟨e1,e2⟩
 ·rw [e1,e2];exact h
 ·rw [e1,e2];exact ⟨fun e=>h.1 e.symm,aA⟩
theorem cntK_le (ps:List Pr) (L:List Int) (k:Int×Int):cntK ps L k≤ps.length:=List.length_filter_le _ _
theorem cntK_add (ps:List Pr) (L:List Int) (p:Pr) (k:Int×Int):cntK (ps++[p]) L k=cntK ps L k+if mL L p=k then 1 else 0:=by
 unfold cntK;rw [List.filter_append,List.length_append]
 congr 1
 by_cases h:mL L p=k
 ·simp [h]
 ·simp [h]
structure SM (ps:List Pr) (L:List Int) (bd:Int) (ents:List ((Int×Int)×Value×Nat)):Prop where
 one:∀ k v,eS ents k=some v→v= .int .i64 (cntK ps L k:Int)∧∃ p∈ps,okP L bd p=true∧mL L p=k
 all:∀ p∈ps,okP L bd p=true→eS ents (mL L p)≠none
 few:ents.length≤ps.length
theorem SM.nil (L:List Int) (bd:Int):SM [] L bd [] where
 one:=fun k v h=>by simp [eS] at h
 all:=fun p hp=>by cases hp
 few:=Nat.le_refl _
theorem SM.val {ps:List Pr} {L:List Int} {bd:Int} {ents:List ((Int×Int)×Value×Nat)} (h:SM ps L bd ents) {p:Pr} (hp:okP L bd p=true):(eS ents (mL L p)).getD (.int .i64 0)= .int .i64 (cntK ps L (mL L p):Int):=by
 cases hg:eS ents (mL L p) with
 |some v=>exact (h.one _ _ hg).1
 |none=>
  have:cntK ps L (mL L p)=0:=by
   unfold cntK
   rw [List.length_eq_zero_iff,List.filter_eq_nil_iff];intro q hq e;simp only [decide_eq_true_eq] at e;exact h.all q hq (okP_same hp e.symm) (by rw [e];exact hg)
  rw [this];rfl
theorem SM.add {ps:List Pr} {L:List Int} {bd:Int} {ents:List ((Int×Int)×Value×Nat)} (h:SM ps L bd ents) {p:Pr} (hp:okP L bd p=true) (k:Nat):
  SM (ps++[p]) L bd (fW ents (mL L p) (.int .i64 ((cntK ps L (mL L p):Int)+1)) k) where
 one:=fun q v hg=>by
  rw [jI] at hg;rw [cntK_add]
  by_cases e:q=mL L p
  ·subst e
   rw [if_pos rfl] at hg;cases hg
   exact ⟨by rw [if_pos rfl];rfl,p,aO,hp,rfl⟩
  ·rw [if_neg e] at hg
   obtain ⟨h1,r,hr,h2⟩:=h.one q v hg
   exact ⟨by rw [if_neg (fun e' =>e e'.symm),Nat.add_zero];exact h1,r,by simp [hr],h2⟩
 all:=fun q hq ho=>by
  rw [jI]
  split
  ·simp
  ·rename_i F
   rcases List.mem_append.1 hq with hq|hq
   ·exact h.all q hq ho
   ·obtain rfl:=List.mem_singleton.1 hq;exact absurd rfl F
 few:=by have:=mput_len (mL L p) (.int .i64 ((cntK ps L (mL L p):Int)+1)) k ents;have:=h.few;simp;omega
theorem SM.skip {ps:List Pr} {L:List Int} {bd:Int} {ents:List ((Int×Int)×Value×Nat)} (h:SM ps L bd ents) {p:Pr} (hp:¬ okP L bd p=true):SM (ps++[p]) L bd ents where
 one:=fun q v hg=>by
  obtain ⟨h1,r,hr,h2,h3⟩:=h.one q v hg
  rw [cntK_add,if_neg (fun e=>hp (okP_same h2 (h3.trans e.symm))),Nat.add_zero];exact ⟨h1,r,by simp [hr],h2,h3⟩
 all:=fun q hq ho=>by
  rcases List.mem_append.1 hq with hq|hq
  ·exact h.all q hq ho
  ·obtain rfl:=List.mem_singleton.1 hq;exact absurd ho hp
 few:=by have:=h.few;simp;omega
theorem mem_smL {ps:List Pr} {L:List Int} {bd:Int} {s:Sm}:s∈smL ps L bd↔∃ p∈ps,okP L bd p=true∧mL L p=(s.1,s.2.1)∧s.2.2=(cntK ps L (s.1,s.2.1):Int):=by
 unfold smL
 rw [List.mem_map];constructor
 ·rintro ⟨p,hp,rfl⟩
  obtain ⟨h1,h2⟩:=List.mem_filter.1 hp
  exact ⟨p,h1,h2,rfl,rfl⟩
 ·rintro ⟨p,hp,ho,e,e2⟩
  refine ⟨p,List.mem_filter.2 ⟨hp,ho⟩,?_⟩;rw [e,← e2]
theorem SM.ent {ps:List Pr} {L:List Int} {bd:Int} {ents:List ((Int×Int)×Value×Nat)} {F:Nat} (h:SM ps L bd ents) (hm:MOk ents F) {e:(Int×Int)×Value×Nat} (he:e∈ents):∃ a b c s,e=((a,b),.int .i64 c,s)∧(a,b,c)∈smL ps L bd:=by
 obtain ⟨⟨a,b⟩,v,s⟩:=e
 obtain ⟨e,p,hp,h1,h2⟩:=h.one (a,b) v (mget_mem hm.keys he)
 subst e;exact ⟨a,b,_,s,rfl,mem_smL.2 ⟨p,hp,h1,h2,rfl⟩⟩
theorem SM.end_ {ps:List Pr} {L:List Int} {bd:Int} {ents:List ((Int×Int)×Value×Nat)} {sl:List Sm} (h:SM ps L bd ents) (hs:∀ s∈sl,s∈smL ps L bd) (hk:∀ k,k∈(sl.map fun s=>(s.1,s.2.1))↔k∈ents.map (·.1)) (s:Sm):s∈sl↔s∈smL ps L bd:=by
 refine ⟨hs s,fun hm=>?_⟩;obtain ⟨p,hp,ho,e,e2⟩:=mem_smL.1 hm
 have h1:mL L p∈ents.map (·.1):=by
  refine Classical.byContradiction fun hn=>h.all p hp ho (mget_none.2 hn)
 obtain ⟨t,J,F⟩:=List.mem_map.1 ((hk _).2 h1)
 obtain ⟨_,_,_,_,O⟩:=mem_smL.1 (hs t J)
 rw [e] at F
 have h2:t=s:=by
  obtain ⟨t1,X,t3⟩:=t
  obtain ⟨Y,U,Z⟩:=s
  simp only [Prod.mk.injEq] at F;obtain ⟨rfl,rfl⟩:=F
  simp only at e2 O;rw [e2,O]
 rw [← h2];exact J
theorem smL_seam {n:Nat} {l:List Arc} {L:List Int} {bd:Int} {s:Sm} (h:s∈smL (prs n l) L bd):Seam n l bd L s.1 s.2.1:=by
 obtain ⟨p,hp,ho,e,_⟩:=mem_smL.1 h
 unfold okP at ho;unfold mL at e
 simp only [decide_eq_true_eq,Prod.mk.injEq] at ho e;have:(lab L p.1=s.1∧lab L p.2=s.2.1)∨(lab L p.1=s.2.1∧lab L p.2=s.1):=aA
 refine ⟨p,hp,aA,this,?_⟩
 rcases this with ⟨e1,e2⟩|⟨e1,e2⟩
 ·rw [e1,e2] at ho;exact ho.2
 ·rw [e1,e2] at ho;have:=ho.2;omega
theorem lab_nat {L:List Int} {u:Int} {a:Nat} (h:u.toNat<L.length) (e:L[u.toNat]=(a:Int)):lab L u=(a:Int):=by rw [oR h,e]
theorem seams_spec {n:Nat} (A B:Option Addr) (l:List Arc) (cap:Nat) (L:List Int) (cb:Nat) (bd:Int) (w:World) (hr:Ro (Fr w []) w A ((prs n l).flatMap fF)) (hL:Ro (Fr w []) w B (a8 L)) (hR:eG (n:Int) L=true) (bi:1≤n) (bv:n≤1024) (hb:1≤bd∧bd≤1024):
    Meets Tryz.prog 90 [.slice A (prs n l).length cap,.slice B L.length cb,.int .i64 bd] w [] (fun u own' =>∃ (sl:List Sm) (c' :Nat) (A' :Option Addr) (m' :Seg),u= .slice A' sl.length c'∧own' =[m']∧Own 165 3 (.slice A' sl.length c') sl.length (sl.flatMap o9) m'∧(∀ s,s∈sl↔s∈smL (prs n l) L bd)∧(∀ s∈sl,SmOk s)∧sl.length≤1048576):=by
 have bE:=prs_len (n:=n) bv l
 have bR:L.length=n:=(d6 hR).2
 have X:=e7 hR bi
 refine bG Tryz.func90 rfl Tryz.ntmps90 rfl Owns.nil<|aG fun kh1=>aB 1 rfl<|aD kh1<|aG fun kh2=>aB 1 rfl ?_
 refine f_S (aW Tryz.call88 rfl (fun w_ bh=>p9 B L cb w_ (hL.up0 bh) aA aA (fun x hx=>by have:=X x hx;omega)) ?_);rintro _ _ ⟨bs,rfl,rfl⟩;obtain ⟨M,hM⟩:∃ M:Nat,(fC L+1).toNat=M:=⟨_,rfl⟩
 rw [d3,hM];rw [hM] at X;have bY:M≤n:=(X L[0] (List.getElem_mem aA)).2.2
 dsimp only [aK,aJ];refine aB 1 rfl<|aD kh2<|aG fun kh3=>f_S (iY fun ao=>?_)
 refine aB 1 rfl<|aD kh3<|aV fun kh4=>aG fun bf=>aB 1 rfl<|dY iB rfl<|aB 1 rfl<|aD bf<|aS ?_
 refine dF (α:=Nat×List ((Int×Int)×Value×Nat)×Nat) [1,2,7,8,19,20] (fun ⟨i,ents,U⟩=>[(21,.int .i64 (i:Int))]) (fun ⟨i,ents,U⟩=>[[(ao,e9 oV ents U)],[(bs,blk (a8 (szs M L)) 3)]]) (fun ⟨i,ents,U⟩=>i≤(prs n l).length∧MOk ents U∧SM ((prs n l).take i) L bd ents) (fun ⟨i,ents,U⟩=>(prs n l).length - i) (0,[],0) ?_ ?_ ?_ ?_
 ·exact aF
 ·exact aC
 ·exact ⟨aA,MOk.nil,SM.nil L bd⟩
 ·rintro ⟨i,ents,U⟩ ⟨b2,F,hsm⟩;refine aG fun kh6=>aB 1 rfl<|aD kh6<|aV fun kh7=>aX rfl (fun bt=>?_) (fun bt=>?_)
  ·have hi:i<(prs n l).length:=aA
   obtain ⟨bp,op,rfl,bw,bj⟩:=hr (fH fF e5 aA hi)
   obtain ⟨bb,ob,rfl,ax,aw⟩:=hL (fun e=>by have:=a7 L;rw [e] at this;simp at this;omega)
   have bM:=jD (List.getElem_mem hi)
   have ap:(prs n l)[i].1.toNat<L.length:=aA
   have am:(prs n l)[i].2.toNat<L.length:=aA
   have aq:=X _ (List.getElem_mem ap)
   have ba:=X _ (List.getElem_mem am)
   obtain ⟨a,ha⟩:∃ a:Nat,L[(prs n l)[i].1.toNat]=(a:Int):=⟨_,(Int.toNat_of_nonneg aq.1).symm⟩
   obtain ⟨b,ai⟩:∃ b:Nat,L[(prs n l)[i].2.toNat]=(b:Int):=⟨_,(Int.toNat_of_nonneg ba.1).symm⟩
   rw [ha] at aq;rw [ai] at ba;have la:=lab_nat ap ha
   have lb:=lab_nat am ai
   have a1:a<M:=aA
   have av:b<M:=aA
   have ad:=cnt_le L a
   have bB:=cnt_le L b
   have ca:gJ L (a:Int)=cnt L a:=rfl
   have au:gJ L (b:Int)=cnt L b:=rfl
   have al:(prs n l).take (i+1)=(prs n l).take i++[(prs n l)[i]]:=List.take_succ_eq_append_getElem hi
   have be:((prs n l).take i).length=i:=by rw [List.length_take];omega
   have ah:mL L (prs n l)[i]=(min (a:Int) b,max (a:Int) b):=by unfold mL;rw [la,lb]
   refine bZ kh7<|aV fun kh8=>aS<|aG fun kh9=>f_Q (aM iB rfl rfl (op+i*2))<|f_Q (aQ (vs:=fF (prs n l)[i]) Tryz.isAgg215 Tryz.sizeOf215 rfl rfl (gV e5 bw bj hi))<|f_S (cX Tryz.zeroValue215 rfl fun b10=>?_)
   refine f_Z (bS Tryz.sizeOf215 rfl rfl rfl rfl cG (fF (prs n l)[i]) rfl ?_);refine aD kh9<|aV fun kh10=>cQ [[(b10,blk [.int .i64 (prs n l)[i].1,.int .i64 (prs n l)[i].2] 215)]] rfl<|f_T 0 rfl (aR rfl)<|f_T 1 rfl (aT lX rfl)<|f_T 2 rfl (aH Tryz.isAgg3 rfl (rdA rfl))<|f_T 3 rfl (aM bU rfl rfl (ob+(prs n l)[i].1.toNat))<|f_T 4 rfl (aH Tryz.isAgg3 rfl (show Rd _ _ _ _ _ (.int .i64 (a:Int)) by rw [← ha];exact eC (enc:=(.int .i64 ·)) ax aw ap)) ?_
   refine f_T 5 rfl (aR rfl)<|f_T 6 rfl (aT oL rfl)<|f_T 7 rfl (aH Tryz.isAgg3 rfl (rdA rfl))<|f_T 8 rfl (aM bU rfl rfl (ob+(prs n l)[i].2.toNat))<|f_T 9 rfl (aH Tryz.isAgg3 rfl (show Rd _ _ _ _ _ (.int .i64 (b:Int)) by rw [← ai];exact eC (enc:=(.int .i64 ·)) ax aw am)) ?_
   refine f_T 10 rfl (bI rfl)<|f_T 11 rfl (bI rfl)<|cO aU<|bP kh10<|aV fun kh11=>h9 rfl aU<|dN 4 rfl<|f_splitS 38 rfl (fun g38=>?_) (fun g38=>?_)
   ·refine dN 2 rfl<|dR rfl rfl rfl rfl rfl (aM bU rfl rfl (a))<|dR rfl rfl rfl rfl rfl (aH Tryz.isAgg3 rfl (rdA (v:= .int .i64 (cnt L a:Int)) (by rw [d9 (by rw [gO];exact a1),kU a1]))) ?_
    refine dN 2 rfl<|dR rfl rfl rfl rfl rfl (aM bU rfl rfl (b))<|dR rfl rfl rfl rfl rfl (aH Tryz.isAgg3 rfl (rdA (v:= .int .i64 (cnt L b:Int)) (by rw [d9 (by rw [gO];exact av),kU av]))) ?_
    refine dR rfl rfl rfl rfl rfl (bF rfl rfl)<|dN 3 rfl<|eK<|bP kh11<|aX rfl (fun c50=>?_) (fun c50=>?_)
    ·have az:okP L bd (prs n l)[i]=true:=by unfold okP;rw [la,lb,ca,au];simp only [decide_eq_true_eq];omega
     have hc:=hsm.val az
     have J:=hsm.add az U
     have aj:=cntK_le ((prs n l).take i) L (min (a:Int) b,max (a:Int) b)
     rw [be] at aj;rw [← al,ah] at J;rw [ah] at hc;refine cQ [] rfl<|f_T 0 rfl (aR rfl)<|f_T 1 rfl (aR rfl)<|f_T 2 rfl (aR rfl)<|f_T 3 rfl (oH rfl rfl)<|f_T 4 rfl (aR rfl)<|f_T 5 rfl (aR rfl)<|f_T 6 rfl (o_max rfl rfl)<|f_T 7 rfl (o_buildA (cs:=[.int .i64 (min (a:Int) b),.int .i64 (max (a:Int) b)]) ar237 rfl rfl)<|gD 8 10 rfl rfl aU rfl rfl rfl rfl rfl rfl ?_ ?_
     ·refine (fG kt236 Tryz.zeroValue3 rfl rfl rfl (key:=(min (a:Int) b,max (a:Int) b)) (.int .i64 (cntK ((prs n l).take i) L (min (a:Int) b,max (a:Int) b):Int)) (by first|exact hc|exact (ment_val _ _ _ _).trans hc)).does ⟨aC,?_⟩;refine f_T 9 rfl (bF rfl rfl)<|f_O 10 rfl (qH kt236 Tryz.zeroValue3 rfl rfl rfl (key:=(min (a:Int) b,max (a:Int) b)) _ rfl ⟨aC,?_⟩)
      refine f_T 11 rfl (eU rfl rfl)<|fX 12 rfl (mS (key:=(min (a:Int) b,max (a:Int) b)) F rfl rfl rfl ⟨aC,?_⟩)
      refine cO aU<|dI<|bP kh8<|aI<|f_Q (bF rfl rfl)<|aB 1 rfl<|aY ?_
      refine cV (a6 (i+1,fW ents (min (a:Int) b,max (a:Int) b) (.int .i64 ((cntK ((prs n l).take i) L (min (a:Int) b,max (a:Int) b):Int)+1)) U,fM ents (min (a:Int) b,max (a:Int) b) U) (by first|omega|(dsimp only;omega)|(simp;omega)) ⟨aA,F.put _ _,J⟩ ?_ ?_ ?_)
      ·exact aF
      ·exact aF
      ·exact aC
     ·refine (qH kt236 Tryz.zeroValue3 rfl rfl rfl (key:=(min (a:Int) b,max (a:Int) b)) _ rfl ⟨aC,?_⟩);refine f_T 11 rfl (eU rfl rfl)<|f_O 8 rfl ((fG kt236 Tryz.zeroValue3 rfl rfl rfl (key:=(min (a:Int) b,max (a:Int) b)) (.int .i64 (cntK ((prs n l).take i) L (min (a:Int) b,max (a:Int) b):Int)) (by first|exact hc|exact (ment_val _ _ _ _).trans hc)).does ⟨aC,?_⟩)
      refine f_T 9 rfl (bF rfl rfl)<|fX 12 rfl (mS (key:=(min (a:Int) b,max (a:Int) b)) F rfl rfl rfl ⟨aC,?_⟩)
      refine cO aU<|dI<|bP kh8<|aI<|f_Q (bF rfl rfl)<|aB 1 rfl<|aY ?_
      refine cV (a6 (i+1,fW ents (min (a:Int) b,max (a:Int) b) (.int .i64 ((cntK ((prs n l).take i) L (min (a:Int) b,max (a:Int) b):Int)+1)) U,fM ents (min (a:Int) b,max (a:Int) b) U) (by first|omega|(dsimp only;omega)|(simp;omega)) ⟨aA,F.put _ _,J⟩ ?_ ?_ ?_)
      ·exact aF
      ·exact aF
      ·exact aC
    ·have J:=hsm.skip (p:=(prs n l)[i]) (fun ho=>by unfold okP at ho;rw [la,lb,ca,au] at ho;simp only [decide_eq_true_eq] at ho;omega)
     rw [← al] at J;refine dZ<|dI<|bP kh8<|aI<|f_Q (bF rfl rfl)<|aB 1 rfl<|aY ?_
     refine cV (a6 (i+1,ents,U) (by first|omega|(dsimp only;omega)|(simp;omega)) ⟨aA,F,J⟩ ?_ ?_ ?_)
     ·exact aF
     ·exact aF
     ·exact aC
   ·have J:=hsm.skip (p:=(prs n l)[i]) (fun ho=>by unfold okP at ho;rw [la,lb] at ho;simp only [decide_eq_true_eq] at ho;omega)
    rw [← al] at J;refine dN 12 rfl<|eK<|bP kh11<|h7 rfl<|dZ<|dI<|bP kh8<|aI<|f_Q (bF rfl rfl)<|aB 1 rfl ?_
    refine aY ?_;refine cV (a6 (i+1,ents,U) (by first|omega|(dsimp only;omega)|(simp;omega)) ⟨aA,F,J⟩ ?_ ?_ ?_)
    ·exact aF
    ·exact aF
    ·exact aC
  ·refine cS<|cU<|cU<|eH<|bP kh4<|aV fun kh12=>?_
   obtain rfl:i=(prs n l).length:=aA
   rw [List.take_length] at hsm;have bW:=hsm.few
   refine aI<|aB 1 rfl<|aD kh12<|aV fun kh13=>aG fun ay=>aB 1 rfl<|f_S (o_range kt236 rfl fun b65=>?_)
   refine aD ay<|aS ?_
   refine dF (α:=List Nat×List Sm×Value×Seg) [65] (fun ⟨seen,sl,Y,O⟩=>[(13,Y)]) (fun ⟨seen,sl,Y,O⟩=>[[(b65,nT ao U seen)],O,[(ao,e9 oV ents U)],[(bs,blk (a8 (szs M L)) 3)]]) (fun ⟨seen,sl,Y,O⟩=>Came ents seen (sl.map fun s=>(s.1,s.2.1))∧Own 165 3 Y sl.length (sl.flatMap o9) O∧∀ s∈sl,s∈smL (prs n l) L bd) (fun ⟨seen,sl,Y,O⟩=>ents.length - sl.length) ([],[],.slice none 0 0,[]) ?_ ?_ ?_ ?_
   ·exact aF
   ·exact aC
   ·exact ⟨Came.start,Own.nil _ _,fun s hs=>by cases hs⟩
   ·rintro ⟨seen,sl,Y,O⟩ ⟨ad,aa,ag⟩;have aj:=ad.len
    rw [List.length_map] at aj;obtain ⟨bq,an,rfl,bC⟩:=aa.val
    refine fJ (e:=[(13,_),(65,_)]) aF ?_;refine aG fun kh15=>f_S (o_next1 F rfl fun bL bD ab ar=>?_);refine aB 1 rfl<|aD kh15<|aV fun kh16=>e8 rfl (fun Z=>?_) (fun Z=>?_)
    ·obtain ⟨e,he,ak,rfl⟩:∃ e∈ents,e.2.2∉seen∧ab=seen++[e.2.2]:=by
       rcases ar with ⟨_,h⟩|⟨h,_⟩
       ·exact h
       ·rw [h] at Z;cases Z
     have ac:=ad.next F he ak
     obtain ⟨ea,eb,ec,es,rfl,bg⟩:=hsm.ent F he
     dsimp only at ac ak ⊢;refine bZ kh16<|aS<|aG fun kh17=>f_Q (o_entry F he rfl)<|aB 2 rfl<|f_S (cX Tryz.zeroValue237 rfl fun b14=>?_)
     refine f_Z (bS Tryz.sizeOf237 rfl rfl rfl rfl cG [.int .i64 ea,.int .i64 eb] rfl ?_);refine aB 1 rfl<|aD kh17<|aI<|aB 1 rfl<|f_Q (o_idxA ar237 rfl rfl _ ⟨aA,aA,rfl⟩)<|c7 Tryz.isAgg3 rfl (rdA rfl)<|f_Q (o_idxA ar237 rfl rfl _ ⟨aA,aA,rfl⟩)<|c7 Tryz.isAgg3 rfl (rdA rfl)<|aB 1 rfl<|f_Q (dU st165 rfl rfl)<|f_S (bX el162 aA rfl rfl rfl fun b78=>?_)
     refine f_S (dJ el162 rfl rfl aa (ys:=o9 (ea,eb,ec)) ⟨(rdA rfl),(rdA rfl),(rdA rfl),trivial⟩ rfl rfl aA aA fun bc bk bu=>?_);refine aB 1 rfl<|aY<|dI ?_
     refine cV (a6 (seen++[es],sl++[(ea,eb,ec)],bc,bk) (by have:=ac.len;simp at this ⊢;omega) ⟨by rw [List.map_append];exact ac,by rw [List.length_append,List.flatMap_append];simpa [o9] using bu,fun s hs=>by
       rcases List.mem_append.1 hs with hs|hs
       ·exact ag s hs
       ·obtain rfl:=List.mem_singleton.1 hs;exact bg⟩ ?_ ?_ ?_)
     ·exact aF
     ·exact aF
     ·exact aC
    ·obtain ⟨rfl,a2⟩:ab=seen∧∀ e∈ents,e.2.2∈seen:=by
       rcases ar with ⟨h,_⟩|⟨_,h⟩
       ·rw [h] at Z;cases Z
       ·exact h
     refine cS<|cU<|cU<|eH<|bP kh13<|aG fun kh18=>aB 2 rfl<|aD kh18<|aZ ?_
     have hA:∀ s∈sl,SmOk s:=fun s hs=>by
       obtain ⟨q,hq,_,_,b3⟩:=mem_smL.1 (ag s hs)
       have bK:=cntK_le (prs n l) L (s.1,s.2.1)
       obtain ⟨p,hp,ak,br,b1⟩:=smL_seam (ag s hs)
       have ae:=jD hp
       have key:∀ u:Int,0≤u→u<(n:Int)→0≤lab L u∧lab L u≤1048576:=fun u h0 h1=>by
         rw [oR aA];have:=X _ (List.getElem_mem (show u.toNat<L.length by omega))
         omega
       have k1:=key p.1 ae.1.1 ae.1.2
       have k2:=key p.2 ae.2.1 ae.2.2
       unfold SmOk
       rcases br with ⟨e1,e2⟩|⟨e1,e2⟩
       ·rw [e1] at k1;rw [e2] at k2;omega
       ·rw [e1] at k1;rw [e2] at k2;omega
     have hB:=hsm.end_ ag (ad.all a2)
     exact bO [O] Tryz.results90 rfl (by repeat (first|exact aP|refine aL ?_|refine bV rfl ?_)) ⟨sl,an,bq,O,rfl,rfl,aa,hB,hA,aA⟩
theorem lcount_okJ {N:Int} {l:List Arc} {L:List Int} (h:(fQ N l L).2=0):(cL N l).2=0∧eG N L=true:=by
 unfold fQ at h
 split at h
 ·rename_i h1;exact absurd h h1
 ·rename_i h1
  split at h
  ·cases h
  ·rename_i h2;exact ⟨by simpa using h1,by simpa using h2⟩
theorem spE_zero {N:Int} {l:List Arc} {L:List Int} {bd:Int} (h:spE N l L bd=0):∃ n:Nat,N=(n:Int)∧1≤n∧n≤1024∧(cL (n:Int) l).2=0∧eG (n:Int) L=true∧1≤bd∧bd≤1024:=by
 unfold spE at h
 by_cases h1:(fQ N l L).2≠0
 ·rw [if_pos h1] at h;exact absurd h h1
 ·rw [if_neg h1] at h
  obtain ⟨hg,hr⟩:=lcount_okJ (by omega:(fQ N l L).2=0)
  have:=cF hg
  refine ⟨N.toNat,aA,aA,aA,by rw [Int.toNat_of_nonneg aA];exact hg,by rw [Int.toNat_of_nonneg aA];exact hr,?_⟩
  split at h
  ·cases h
  ·omega
def joinE (N:Int) (l:List Arc) (L:List Int) (bd:Int):Int:=if spE N l L bd≠0 then spE N l L bd else if bd<fC (d3 L) then 90 else 0
inductive JTo (n:Nat) (l:List Arc) (bd:Int):List Int→List Int→Prop
 |refl (L:List Int):JTo n l bd L L
 |step {L M:List Int} {s:Sm} (h:JTo n l bd L M) (hs:s∈smL (prs n l) M bd) (hb:∀ t∈smL (prs n l) M bd,nW s t≤0):JTo n l bd L (tdy (mrg s.1 s.2.1 M))
theorem JTo.head {n:Nat} {l:List Arc} {bd:Int} {L R:List Int} (h:JTo n l bd L R):R=L∨∃ s,s∈smL (prs n l) L bd∧(∀ t∈smL (prs n l) L bd,nW s t≤0)∧JTo n l bd (tdy (mrg s.1 s.2.1 L)) R:=by
 induction h with
 |refl=>exact .inl rfl
 |step h hs hb ih=>
  rcases ih with rfl|⟨t,J,F,hj⟩
  ·exact .inr ⟨_,hs,hb,.refl _⟩
  ·exact .inr ⟨t,J,F,hj.step hs hb⟩
def mgk (a b:Int) (L:List Int) (k:Nat):List Int:=L.mapIdx fun i x=>if i<k∧x=b then a else x
theorem mgk_len (a b:Int) (L:List Int) (k:Nat):(mgk a b L k).length=L.length:=by simp [mgk]
theorem mgk_zero (a b:Int) (L:List Int):mgk a b L 0=L:=by
 refine List.ext_getElem (mgk_len ..) fun i h1 h2=>?_;simp [mgk]
theorem mgk_all (a b:Int) (L:List Int):mgk a b L L.length=mrg a b L:=by
 refine List.ext_getElem (by rw [mgk_len,lR]) fun i h1 h2=>?_;rw [lR] at h2;simp [mgk,mrg,h2]
theorem mgk_get {a b : Int} {L : List Int} {k : Nat} (h : k < L.length) : (mgk a b L k)[k]'(by rw [mgk_len]; exact h) = L[k] := by simp [mgk]
theorem mgk_yes {a b:Int} {L:List Int} {k:Nat} (h:k<L.length) (e:L[k]=b):(mgk a b L k).set k a=mgk a b L (k+1):=by
 refine List.ext_getElem (by simp [mgk]) fun i h1 h2=>?_
 by_cases hi:k=i
 ·subst hi;simp [mgk,e]
 ·rw [List.getElem_set_ne hi]
  simp only [mgk,List.getElem_mapIdx]
  split<;>split<;>first|rfl|omega
theorem mgk_no {a b:Int} {L:List Int} {k:Nat} (h:k<L.length) (e:L[k]≠b):mgk a b L k=mgk a b L (k+1):=by
 refine List.ext_getElem (by simp [mgk]) fun i h1 h2=>?_;simp only [mgk,List.getElem_mapIdx]
 by_cases hi:k=i
 ·subst hi;simp [e]
 ·split<;>split<;>first|rfl|omega
theorem cnt_max {L:List Int} (F:0<L.length) (hp:∀ x∈L,0≤x) {bd:Int} (hb:0≤bd) (h:fC (d3 L)≤bd) (y:Int):(gJ L y:Int)≤bd:=by
 by_cases hy:y∈L
 ·have h1:=hp y hy
  have h2:=iL hy
  obtain ⟨v,rfl⟩:∃ v:Nat,y=(v:Int):=⟨y.toNat,aA⟩
  have hv:v<(fC L+1).toNat:=aA
  have h3:(cnt L v:Int)∈d3 L:=by
   unfold d3
   rw [← kU (L:=L) hv];exact List.getElem_mem _
  have:=iL h3
  rw [← cnt_is];omega
 ·rw [kT hy];exact hb
theorem max_cnt {L:List Int} (F:0<(d3 L).length) {bd:Int} (h:∀ y,(gJ L y:Int)≤bd):fC (d3 L)≤bd:=mU F fun x hx=>by
 unfold d3 szs at hx
 obtain ⟨j,_,rfl⟩:=List.mem_map.1 hx
 exact h j
theorem lab_mem {n:Nat} {L:List Int} {u:Int} (F:L.length=n) (h:0≤u∧u<(n:Int)):lab L u∈L:=by
 rw [oR aA];exact List.getElem_mem _
theorem seam_mem {n:Nat} {l:List Arc} {bd a b:Int} {L:List Int} (O:L.length=n) (h:Seam n l bd L a b):a∈L∧b∈L∧a≠b:=by
 obtain ⟨p,hp,F,J,_⟩:=h
 have hr:=jD hp
 have h1:=lab_mem O hr.1
 have h2:=lab_mem O hr.2
 rcases J with ⟨e1,e2⟩|⟨e1,e2⟩
 ·exact ⟨e1▸h1,e2▸h2,F⟩
 ·exact ⟨e2▸h2,e1▸h1,F⟩
theorem Join_spec (N:Int) (A B:Option Addr) (l:List Arc) (cap:Nat) (L:List Int) (cb:Nat) (bd:Int) (w:World) (hr:Ro (Fr w []) w A (l.flatMap cH)) (hl:l.length≤9223372036854775807) (hN:I64 N) (hok:∀ x∈l,eN x) (hL:Ro (Fr w []) w B (a8 L)) (hm:L.length≤9223372036854775807):
    Meets Tryz.prog 57 [.agg #[.int .i64 N,.slice A l.length cap],.slice B L.length cb,.int .i64 bd] w [] (fun u own' =>∃ (L' :List Int) (A' :Option Addr) (c:Nat) (m' :Seg),u= .tuple #[.slice A' L'.length c,.int .i64 (joinE N l L bd)]∧own' =[m']∧Own 3 1 (.slice A' L'.length c) L'.length (a8 L') m'∧(joinE N l L bd≠0→L' =[])∧(joinE N l L bd=0→JInv N.toNat l bd L L'∧smL (prs N.toNat l) L' bd=[]∧JTo N.toNat l bd L L')):=by
 refine bG Tryz.func57 rfl Tryz.ntmps57 rfl Owns.nil<|aG fun kh1=>f_S (cZ rfl rfl fun b3=>?_)
 refine aB 2 rfl<|aD kh1<|aV fun kh2=>aG fun kh3=>f_Q (aQ (vs:=[_,_]) Tryz.isAgg24 Tryz.sizeOf24 rfl rfl ⟨(rdA rfl),(rdA rfl),trivial⟩)<|aB 2 rfl ?_
 refine f_S (aW Tryz.call86 rfl (fun w_ hp_=>splook_spec N A B l cap L cb bd w_ (hr.up0 hp_) hl hN hok (hL.up0 hp_) hm) ?_);rintro _ _ ⟨rfl,rfl⟩;dsimp only [aK,aJ];refine aB 1 rfl<|aD kh3<|aG fun kh4=>aB 2 rfl<|aD kh4<|aX rfl (fun c20=>?_) (fun c20=>?_)
 ·
  refine aG fun ai=>aB 3 rfl<|aD ai<|aZ<|dA ?_
  have Y:spE N l L bd≠0:=by simpa using c20
  have F:joinE N l L bd=spE N l L bd:=by unfold joinE;rw [if_pos Y]
  exact dB [[]] Tryz.results57 rfl rfl (show Fly.Sub _ [[]] from aC) ⟨[],none,0,[],by rw [F];rfl,rfl,Own.nil _ _,fun _=>rfl,fun h=>absurd (F.symm.trans h) Y⟩
 ·
  have hz:spE N l L bd=0:=by simpa using c20
  obtain ⟨n,rfl,aa,au,hg,hR,aw⟩:=spE_zero hz
  have bg:L.length=n:=(d6 hR).2
  have O:=e7 hR aa
  refine bZ kh2<|aV fun kh6=>aG fun kh7=>aB 1 rfl ?_
  refine f_S (aW Tryz.call88 rfl (fun w_ hp_=>p9 B L cb w_ (hL.up0 hp_) aA aA (fun x hx=>by have:=O x hx;omega)) ?_);rintro _ _ ⟨bs,rfl,rfl⟩;obtain ⟨M,hM⟩:∃ M:Nat,(fC L+1).toNat=M:=⟨_,rfl⟩
  have ba:(d3 L).length=M:=by unfold d3;rw [gO,hM]
  rw [hM];rw [hM] at O;have bh:=O L[0] (List.getElem_mem aA)
  dsimp only [aK,aJ];refine f_S (aW Tryz.call87 rfl (fun w_ hp_=>(by have h:=nZ (some ⟨bs,0,none⟩) (d3 L) M w_ (fK (b:=bs) hp_ (fun j v hj=>hj)) aA aA;rw [ba] at h;exact h)) ?_);rintro _ _ ⟨rfl,rfl⟩;dsimp only [aK,aJ];refine aB 2 rfl<|aD kh7<|aX rfl (fun c26=>?_) (fun c26=>?_)
  ·
   refine aG fun az=>aB 2 rfl<|aD az<|aZ<|dA ?_
   have F:joinE (n:Int) l L bd=90:=by unfold joinE;rw [if_neg (by rw [hz];simp),if_pos aA]
   exact dB [[]] Tryz.results57 rfl rfl (show Fly.Sub _ [[]] from aC) ⟨[],none,0,[],by rw [F];rfl,rfl,Own.nil _ _,fun _=>rfl,fun h=>by rw [F] at h;cases h⟩
  ·
   have ay:=cnt_max (L:=L) aA (fun x hx=>(O x hx).1) aA (by omega:fC (d3 L)≤bd)
   refine bZ kh6<|aG fun kh9=>f_Q (aQ (vs:=[_,_]) Tryz.isAgg24 Tryz.sizeOf24 rfl rfl ⟨(rdA rfl),(rdA rfl),trivial⟩) ?_
   refine f_S (aW Tryz.call89 rfl (fun w_ hp_=>Pairs_spec (n:Int) A l cap w_ (hr.up0 hp_) hl hN hok) ?_);rintro _ av X;rw [if_pos hg,Int.toNat_natCast] at X;obtain ⟨Ap,mp,cp,rfl,rfl,a1⟩:=X
   dsimp only [aK,aJ];refine aB 5 rfl<|aD kh9<|aV fun kh10=>aG fun kh11=>aB 2 rfl<|aD kh11<|d4 rfl aO<|bZ kh10<|aG fun kh12=>aB 1 rfl ?_
   refine f_S (aW Tryz.call56 rfl (fun w_ hp_=>oP B L.length (a8 L) cb w_ (hL.up0 hp_) (fun e=>by rw [e] at hL;obtain ⟨_,_,e',_⟩:=hL (fun e=>by have:=a7 L;rw [e] at this;simp at this;omega);cases e') (by rw [a7];omega) (ints_oneG _) aA) ?_);rintro bi _ ⟨bk,rfl,ab⟩;obtain ⟨bo,co,sp,rfl,rfl⟩:=ab.block aA
   dsimp only [aK,aJ];refine aB 1 rfl<|aD kh12<|aS ?_
   refine dF (α:=List Int) [2,9,11] (fun L' =>[]) (fun L' =>[[(bo,blk (a8 L' ++sp) 3)],mp]) (fun L' =>JInv n l bd L L'∧JTo n l bd L L') (fun L' =>(fC L' +1).toNat) (L) ?_ ?_ ?_ ?_
   · exact aF
   · exact aC
   · exact ⟨JInv.refl hR ay,JTo.refl L⟩
   ·
    rintro L' ⟨hJ,hT⟩;have ac:L'.length=n:=(d6 hJ.right).2
    have U:L'.length=L.length:=aA
    refine aS<|aG fun kh13=>aB 3 rfl ?_
    refine f_S (aW Tryz.call90 rfl (fun w_ hp_=>(by have h:=seams_spec Ap (some ⟨bo,0,none⟩) l (prs n l).length L' co bd w_ (fD (a1.seen hp_)) (fK (b:=bo) hp_ (fun j v hj=>d7 hj)) hJ.right aa au aw;rw [U] at h;exact h)) ?_);rintro _ _ ⟨sl,a2,ar,be,rfl,rfl,aq,hsm,ap,aj⟩;dsimp only [aK,aJ];refine aB 1 rfl<|aD kh13<|aV fun kh14=>aG fun kh15=>aB 1 rfl<|dY sl162 rfl<|aB 1 rfl<|aD kh15<|aX rfl (fun c43=>?_) (fun c43=>?_)
    ·
     refine aG fun ae=>aB 3 rfl<|aD ae<|aZ<|dA<|fA<|dA<|fA ?_
     have F:joinE (n:Int) l L bd=0:=by unfold joinE;rw [if_neg (by rw [hz];simp),if_neg aA]
     have ak:smL (prs n l) L' bd=[]:=by
       rw [List.eq_nil_iff_forall_not_mem];intro s hs;have:=List.length_pos_of_mem ((hsm s).2 hs)
       omega
     exact dB [[(bo,blk (a8 L' ++sp) 3)]] Tryz.results57 rfl rfl aC ⟨L',some ⟨bo,0,none⟩,co,_,by rw [U,F],rfl,(by have:=pG ab U;exact this),fun h=>absurd F h,fun _=>⟨by rw [Int.toNat_natCast];exact hJ,by rw [Int.toNat_natCast];exact ak,by rw [Int.toNat_natCast];exact hT⟩⟩
    ·
     have bc:0<sl.length:=aA
     refine bZ kh14<|aG fun kh17=>aB 1 rfl ?_
     refine f_S (aW Tryz.call91 rfl (fun w_ hp_=>MinF_spec ar a2 sl w_ (fD (aq.seen hp_)) aA aA ap) ?_);rintro _ _ ⟨s,rfl,al,ao,rfl⟩;have Z:=(hsm s).1 al
     have J:=seam_mem ac (smL_seam Z)
     have ag:∀ t∈smL (prs n l) L' bd,nW s t≤0:=fun t ht=>ao t ((hsm t).2 ht)
     dsimp only [aK,aJ];refine f_S (cX Tryz.zeroValue165 rfl fun ax=>?_);refine f_Z (bS Tryz.sizeOf165 rfl rfl rfl rfl cG (o9 s) rfl ?_);refine aD kh17<|aV fun kh18=>aG fun ad=>aB 1 rfl<|dY bU rfl<|aB 1 rfl<|aD ad<|aS ?_
     refine dF (α:=Nat) [2,9,11,13,48] (fun k=>[(49,.int .i64 (k:Int))]) (fun k=>[[(bo,blk (a8 (mgk s.1 s.2.1 L' k)++sp) 3)],[(ax,blk [.int .i64 s.1,.int .i64 s.2.1,.int .i64 s.2.2] 165)],mp]) (fun k=>k≤L'.length) (fun k=>L'.length - k) (0) ?_ ?_ ?_ ?_
     · exact aF
     · rw [mgk_zero]
       exact aC
     · exact Nat.zero_le _
     ·
      rintro k bj;refine fJ (e:=[(49,_),(2,_),(9,_),(11,_),(13,_),(48,_)]) aF ?_;refine aG fun kh20=>aB 1 rfl<|aD kh20<|aV fun kh21=>aX rfl (fun an=>?_) (fun an=>?_)
      ·
       have hk:k<L'.length:=aA
       refine bZ kh21<|aV fun kh22=>aS<|aG fun kh23=>aB 2 rfl<|aD kh23<|aV fun kh24=>h9 rfl aU<|dN 2 rfl<|dG (aM bU rfl rfl (k)) ?_
       refine dG (aH Tryz.isAgg3 rfl (rdA (v:= .int .i64 L'[k]) (d7 (by rw [d9 (by rw [mgk_len];exact hk),mgk_get hk])))) ?_;refine dG (aT fa165_1 rfl)<|gH Tryz.isAgg3 rfl (rdA rfl)<|dN 1 rfl<|eK<|bP kh24<|aX rfl (fun c58=>?_) (fun c58=>?_)
       ·
        have ah:=mgk_yes (a:=s.1) hk c58
        refine aI<|aB 2 rfl<|cN fa165_0 rfl<|c7 Tryz.isAgg3 rfl (rdA rfl)<|f_Q (aM bU rfl rfl (k))<|f_Z (bQ Tryz.sizeOf3 rfl rfl rfl rfl (by rw [List.length_append,a7,mgk_len];omega) (a8 (mgk s.1 s.2.1 L' (k+1))++sp) (by rw [← ah,List.set_append_left _ _ (by rw [a7,mgk_len];omega)];simp [a8,List.map_set]) ?_)
        refine aY<|dI<|bP kh22<|aI<|f_Q (bF rfl rfl)<|aB 1 rfl<|aY ?_
        refine cV (a6 (k+1) (by first|omega|(dsimp only;omega)|(simp;omega)) aA ?_ ?_ ?_)
        · exact aF
        · exact aF
        · exact aC
       ·
        have am:=mgk_no (a:=s.1) hk c58
        refine lB bo (a8 (mgk s.1 s.2.1 L' (k+1))++sp) (by rw [am]) ?_;refine dZ<|dI<|bP kh22<|aI<|f_Q (bF rfl rfl)<|aB 1 rfl<|aY ?_
        refine cV (a6 (k+1) (by first|omega|(dsimp only;omega)|(simp;omega)) aA ?_ ?_ ?_)
        · exact aF
        · exact aF
        · exact aC
      ·
       refine cS<|cU<|cU<|eH<|bP kh18 ?_
       obtain rfl:k=L'.length:=aA
       rw [mgk_all];refine aI<|aB 1 rfl ?_
       refine f_S (d5 [[(bo,blk (a8 (mrg s.1 s.2.1 L')++sp) 3)]] _ Tryz.call93 rfl (by repeat (first|exact Sub.refl|refine aL ?_)) (fun w_ hp_=>(by have h:=tidy_spec bo co (mrg s.1 s.2.1 L') sp w_ (by rw [lR];omega) (by rw [lR];omega) (pG ab (by rw [lR];omega)) hp_.owns;rw [lR,U] at h;exact h)) ?_);rintro _ _ ⟨rfl,rfl,bf⟩;dsimp only [aK,aJ];refine aY<|dI ?_
       refine cV (a6 (tdy (mrg s.1 s.2.1 L')) (join_less hJ.right aa J.1 J.2.1 J.2.2) ⟨hJ.step aA (smL_seam Z),hT.step Z ag⟩ ?_ ?_ ?_)
       · exact aF
       · exact aF
       · exact aC
def iG (L:List Int) (j:Nat):List Bool:=L.map fun x=>decide (x=(j:Int))
theorem lI (L:List Int) (j:Nat):(iG L j).length=L.length:=by simp [iG]
def kpTo (L:List Int) (j k:Nat):List Bool:=L.mapIdx fun i x=>decide (i<k∧x=(j:Int))
theorem kpTo_len (L:List Int) (j k:Nat):(kpTo L j k).length=L.length:=by simp [kpTo]
theorem kpTo_zero (L:List Int) (j:Nat):kpTo L j 0=List.replicate L.length false:=by
 refine List.ext_getElem (by simp [kpTo]) fun i h1 h2=>?_;simp [kpTo]
theorem kpTo_next {L:List Int} {j k:Nat} (h:k<L.length):(kpTo L j k).set k (decide (L[k]=(j:Int)))=kpTo L j (k+1):=by
 refine List.ext_getElem (by simp [kpTo]) fun i h1 h2=>?_;have h3:i<L.length:=by simpa [kpTo] using h2
 by_cases hi:k=i
 ·subst hi;simp [kpTo]
 ·rw [List.getElem_set_ne hi]
  simp only [kpTo,List.getElem_mapIdx];apply decide_eq_decide.2;constructor<;>rintro ⟨J,F⟩<;>exact ⟨aA,F⟩
theorem kpTo_all (L:List Int) (j:Nat):kpTo L j L.length=iG L j:=by
 refine List.ext_getElem (by simp [kpTo,iG]) fun i h1 h2=>?_;have h3:i<L.length:=by simpa [iG] using h2
 simp [kpTo,iG,h3]
abbrev eM (L:List Int) (j:Nat):List Int:=gZ (iG L j)
def dV (l:List Arc) (L:List Int) (j:Nat):List Int:=(ordR ((eM L j).length:Int) (fL (iG L j) l)).1
def putAt (vs ord:List Int) (i:Nat):Nat:=(vs.getD (ord.getD i 0).toNat 0).toNat
def kA (vs ord:List Int) (b:Nat) (nx:Int) (out:List Int):Nat→List Int
 |0=>out
 |i+1=>(kA vs ord b nx out i).set (putAt vs ord i) (nx+((i / b:Nat):Int))
theorem putTo_len (vs ord:List Int) (b:Nat) (nx:Int) (out:List Int):∀ i,(kA vs ord b nx out i).length=out.length
 |0=>rfl
 |i+1=>by unfold kA;rw [List.length_set,putTo_len vs ord b nx out i]
def eF (l:List Arc) (L:List Int) (b:Nat):Nat→List Int×Int
 |0=>(L,(L.length:Int))
 |j+1=>if cnt L j≤b then eF l L b j else (kA (eM L j) (dV l L j) b (eF l L b j).2 (eF l L b j).1 (dV l L j).length,(eF l L b j).2+((((dV l L j).length+b - 1) / b:Nat):Int))
theorem j3 (l:List Arc) (L:List Int) (b:Nat):∀ j,(eF l L b j).1.length=L.length
 |0=>rfl
 |j+1=>by unfold eF;split;exact j3 l L b j;rw [putTo_len,j3 l L b j]
def cutL (l:List Arc) (L:List Int) (b:Nat):List Int:=tdy (eF l L b (fC L+1).toNat).1
structure CutOk (l:List Arc) (L:List Int) (j:Nat):Prop where
 has:(eM L j).length≠0
 few:(eM L j).length≤L.length
 good:cL ((eM L j).length:Int) (fL (iG L j) l)=(0,0)
 ord:ordR ((eM L j).length:Int) (fL (iG L j) l)=(dV l L j,0)
 rng:∀ x∈dV l L j,0≤x∧x<((eM L j).length:Int)
 nd:(dV l L j).Nodup
 all:∀ u,u<(eM L j).length→(u:Int)∈dV l L j
 olen:(dV l L j).length≤(eM L j).length
theorem cut_ok {l:List Arc} {L:List Int} {j:Nat} (hn:L.length≤1024) (hl:l.length≤8192) (hj:0<cnt L j):CutOk l L j:=by
 have O:=lI L j
 have J:(eM L j).length≠0:=by
  have:(j:Int)∈L:=Classical.byContradiction fun h=>by have:=kT h;rw [cnt_is] at hj;omega
  obtain ⟨v,hv,e⟩:=List.mem_iff_getElem.1 this
  exact verts_ne (v:=v) aA (by simp [iG,e])
 have hg:=sub_good (keep:=iG L j) (l:=l) aA hl J
 obtain ⟨U,F⟩:=pL (n:=(eM L j).length) (l:=fL (iG L j) l) (by rw [eM,hg])
 have ho:=ord_ok F (eM L j).length (Nat.le_refl _)
 have e:ordR ((eM L j).length:Int) (fL (iG L j) l)=((eY (eM L j).length (fun v:Nat=>dS (v:Int) (fL (iG L j) l)) (eM L j).length).1,0):=by
  unfold ordR
  rw [if_neg (by rw [eM,hg];simp),Int.toNat_natCast]
 have e1:dV l L j=(eY (eM L j).length (fun v:Nat=>dS (v:Int) (fL (iG L j) l)) (eM L j).length).1:=by unfold dV;rw [e]
 refine ⟨J,?_,hg,by rw [e,e1],?_,?_,?_,?_⟩
 ·have:=verts_le (iG L j);rw [O] at this;exact this
 ·rw [e1];exact ho.rng
 ·rw [e1];exact ho.nd
 ·rw [e1];exact ho.all
 ·rw [e1];exact pV ho.rng ho.nd
theorem CutOk.at {l:List Arc} {L:List Int} {j:Nat} (h:CutOk l L j) {i:Nat} (hi:i<(dV l L j).length):∃ q,(dV l L j)[i]=((q:Nat):Int)∧∃ hq:q<(eM L j).length,∃ u,(eM L j)[q]=((u:Nat):Int)∧(∃ J:u<L.length,L[u]=(j:Int))∧putAt (eM L j) (dV l L j) i=u∧iI (iG L j) u=q:=by
 have hr:=h.rng _ (List.getElem_mem hi)
 obtain ⟨q,hq⟩:∃ q:Nat,(dV l L j)[i]=(q:Int):=⟨_,(Int.toNat_of_nonneg hr.1).symm⟩
 rw [hq] at hr;obtain ⟨u,J,e1,e2,U⟩:=verts_get (keep:=iG L j) (i:=q) (by show q<(eM L j).length;omega)
 have F:q<(eM L j).length:=aA
 have O:(eM L j)[q]=(u:Int):=by have:(eM L j)[q]? =some (u:Int):=e1;rw [List.getElem?_eq_getElem F] at this;exact Option.some.inj this
 rw [lI] at J;refine ⟨q,hq,F,u,O,⟨J,by simpa [iG] using e2⟩,?_,U⟩
 unfold putAt
 rw [List.getD_eq_getElem?_getD,List.getD_eq_getElem?_getD,List.getElem?_eq_getElem hi,Option.getD_some,hq,Int.toNat_natCast,List.getElem?_eq_getElem F,Option.getD_some,O,Int.toNat_natCast]
theorem cutTo_next {l:List Arc} {L:List Int} {b:Nat} (hn:L.length≤1024) (hl:l.length≤8192) (hb:0<b):∀ j,(L.length:Int)≤(eF l L b j).2∧(eF l L b j).2≤1024+(j:Int)*2048
 |0=>by unfold eF;simp;omega
 |j+1=>by
  have ih:=cutTo_next (l:=l) hn hl hb j
  unfold eF
  split
  ·omega
  ·have hc:=cut_ok (l:=l) hn hl (show 0<cnt L j by omega)
   have h1:=hc.olen
   have h2:=hc.few
   have:((dV l L j).length+b - 1) / b≤2048:=by
    refine Nat.div_le_of_le_mul ?_;have:b*1≤b*2048:=Nat.mul_le_mul_left b (by decide)
    rcases Nat.lt_or_ge b 1025 with h|h
    ·have:1*2048≤b*2048:=Nat.mul_le_mul_right 2048 hb
     omega
    ·omega
   generalize ((dV l L j).length+b - 1) / b=q at*
   omega
theorem qn (a b:Nat):(0:Int)≤((a / b:Nat):Int):=Int.natCast_nonneg _
theorem CutOk.inj {l:List Arc} {L:List Int} {j:Nat} (h:CutOk l L j) {i k:Nat} (hi:i<(dV l L j).length) (hk:k<(dV l L j).length) (e:putAt (eM L j) (dV l L j) i=putAt (eM L j) (dV l L j) k):i=k:=by
 obtain ⟨q,hq,_,u,_,_,Y,hr⟩:=h.at hi
 obtain ⟨X,F,_,Z,_,_,J,O⟩:=h.at hk
 rw [Y,J] at e;subst e;have:q=X:=by rw [← hr,← O]
 subst this;refine Classical.byContradiction fun U=>?_;have hn:=h.nd
 rcases Nat.lt_or_gt_of_ne U with hlt|hlt
 ·exact List.pairwise_iff_getElem.1 hn i k hi hk hlt (by rw [hq,F])
 ·exact List.pairwise_iff_getElem.1 hn k i hk hi hlt (by rw [hq,F])
theorem CutOk.cover {l:List Arc} {L:List Int} {j:Nat} (h:CutOk l L j) {v:Nat} (hv:v<L.length) (e:L[v]=(j:Int)):∃ i,i<(dV l L j).length∧putAt (eM L j) (dV l L j) i=v:=by
 have J:v<(iG L j).length:=by rw [lI];exact hv
 have F:(iG L j)[v]=true:=by simp [iG,e]
 have hr:=o4 J F
 obtain ⟨i,hi,U⟩:=List.mem_iff_getElem.1 (h.all _ hr)
 obtain ⟨q,hq,_,u,_,⟨X,Y⟩,hp,O⟩:=h.at hi
 refine ⟨i,hi,hp.trans ?_⟩;have:q=iI (iG L j) v:=by rw [U] at hq;omega
 exact vrank_inj (by rw [lI];exact X) J (by simp [iG,Y]) F (by rw [O,this])
structure PutI (vs ord:List Int) (b:Nat) (nx:Int) (o p:List Int) (i:Nat):Prop where
 len:p.length=o.length
 rest:∀ v,(∀ k,k<i→putAt vs ord k≠v)→p[v]? =o[v]?
 told:∀ k,k<i→p[putAt vs ord k]? =some (nx+((k / b:Nat):Int))
 old:∀ y,y<nx→gJ p y≤gJ o y
 new:∀ c:Nat,gJ p (nx+(c:Int))≤min (i - c*b) b
theorem put_inv {l:List Arc} {L o:List Int} {j b:Nat} {nx:Int} (h:CutOk l L j) (hb:0<b) (hl:o.length=L.length) (hn:∀ x∈o,x<nx):∀ i,i≤(dV l L j).length→PutI (eM L j) (dV l L j) b nx o (kA (eM L j) (dV l L j) b nx o i) i
 |0,_=>by
  refine ⟨rfl,fun _ _=>rfl,fun k hk=>aA,fun y _=>Nat.le_refl _,fun c=>?_⟩
  show gJ o (nx+(c:Int))≤_
  rw [kT fun hm=>by have:=hn _ hm;omega];omega
 |i+1,hi=>by
  have ih:=put_inv (o:=o) (nx:=nx) (b:=b) h hb hl hn i aA
  obtain ⟨q,hq,_,u,_,⟨U,_⟩,hp,_⟩:=h.at (i:=i) aA
  have J:=cntI_set (L:=kA (eM L j) (dV l L j) b nx o i) (i:=u) (by rw [ih.len];omega) (nx+((i / b:Nat):Int))
  show PutI _ _ _ _ _ ((kA (eM L j) (dV l L j) b nx o i).set (putAt (eM L j) (dV l L j) i) _) _
  rw [hp];have F:=Nat.div_add_mod i b
  have O:=Nat.mod_lt i hb
  refine ⟨by rw [List.length_set,ih.len],fun v hv=>?_,fun k hk=>?_,fun y hy=>?_,fun c=>?_⟩
  ·rw [List.getElem?_set_ne (by have:=hv i aA;rw [hp] at this;exact this)]
   exact ih.rest v fun k hk=>hv k aA
  ·by_cases e:k=i
   ·subst e
    rw [hp,List.getElem?_set_self (by rw [ih.len];omega)]
   ·rw [List.getElem?_set_ne (fun e' =>e (h.inj aA aA (by rw [hp,e'])))]
    exact ih.told k aA
  ·have h1:=J y
   have h2:=ih.old y hy
   rw [if_neg (show ¬ nx+((i / b:Nat):Int)=y by have:=qn i b;omega)] at h1;omega
  ·have h1:=J (nx+(c:Int))
   have h2:=ih.new c
   by_cases e:i / b=c
   ·rw [if_pos (show nx+((i / b:Nat):Int)=nx+(c:Int) by omega)] at h1
    rw [e] at F;rw [Nat.mul_comm] at F
    generalize c*b=z at*
    omega
   ·rw [if_neg (show ¬ nx+((i / b:Nat):Int)=nx+(c:Int) by omega)] at h1
    have:i<c*b∨c*b+b≤i:=by
     rcases Nat.lt_or_gt_of_ne e with hlt|hlt
     ·left
      have h3:=Nat.mul_le_mul_right b (show i / b+1≤c from hlt)
      rw [Nat.succ_mul] at h3;rw [Nat.mul_comm] at F;omega
     ·right
      have h3:=Nat.mul_le_mul_right b (show c+1≤i / b from hlt)
      rw [Nat.succ_mul] at h3;rw [Nat.mul_comm] at F;omega
    generalize c*b=z at*
    omega
structure CutI (L:List Int) (b j:Nat) (o:List Int) (nx:Int):Prop where
 len:o.length=L.length
 low:(L.length:Int)≤nx
 same:∀ v (h:v<L.length),(j:Int)≤L[v]∨gJ L L[v]≤b→o[v]? =some L[v]
 new:∀ v (h:v<L.length),L[v]<(j:Int)→b<gJ L L[v]→∃ z,o[v]? =some z∧(L.length:Int)≤z∧z<nx
 fine:∀ u v (hu:u<L.length) (hv:v<L.length),o[u]? =o[v]? →L[u]=L[v]
 size:∀ y,(L.length:Int)≤y→gJ o y≤b
theorem CutI.rng {L:List Int} {b j:Nat} {o:List Int} {nx:Int} (h:CutI L b j o nx) (O:∀ x∈L,0≤x∧x<(L.length:Int)):∀ x∈o,x<nx:=fun x hx=>by
 obtain ⟨v,hv,e⟩:=List.mem_iff_getElem.1 hx
 have F:v<L.length:=by rw [← h.len];exact hv
 have e' :o[v]? =some x:=by rw [List.getElem?_eq_getElem hv,e]
 have hr:=O _ (List.getElem_mem F)
 have J:=h.low
 by_cases hc:(j:Int)≤L[v]∨gJ L L[v]≤b
 ·have:=h.same v F hc
  rw [e'] at this;have:=Option.some.inj this
  omega
 ·obtain ⟨z,h1,h2,h3⟩:=h.new v F aA aA
  rw [e'] at h1;have:=Option.some.inj h1
  omega
theorem cut_inv {l:List Arc} {L:List Int} {b:Nat} (hn:L.length≤1024) (hl:l.length≤8192) (hb:0<b) (hL:∀ x∈L,0≤x∧x<(L.length:Int)):∀ j,CutI L b j (eF l L b j).1 (eF l L b j).2
 |0=>by
  refine ⟨rfl,Int.le_refl _,fun v h _=>List.getElem?_eq_getElem h,fun v h h1=>?_,fun u v O hv e=>?_,fun y hy=>?_⟩
  ·have:=hL _ (List.getElem_mem h);omega
  ·have e' :L[u]? =L[v]? :=e
   rw [List.getElem?_eq_getElem O,List.getElem?_eq_getElem hv] at e';exact Option.some.inj e'
  ·show gJ L y≤b
   rw [kT fun hm=>by have:=hL _ hm;omega];omega
 |j+1=>by
  have ih:=cut_inv (l:=l) hn hl hb hL j
  unfold eF
  by_cases hc:cnt L j≤b
  ·rw [if_pos hc]
   rw [cnt_is] at hc;refine ⟨ih.len,ih.low,fun v h h1=>ih.same v h ?_,fun v h h1 h2=>ih.new v h ?_ h2,ih.fine,ih.size⟩
   ·by_cases e:L[v]=(j:Int)
    ·right;rw [e];exact hc
    ·rcases h1 with h1|h1
     ·left;omega
     ·exact .inr h1
   ·refine Classical.byContradiction fun J=>?_
    have:L[v]=(j:Int):=aA
    rw [this] at h2;omega
  ·rw [if_neg hc]
   have U:=cut_ok (l:=l) hn hl (show 0<cnt L j by omega)
   have Y:=put_inv U hb ih.len (ih.rng hL) (dV l L j).length (Nat.le_refl _)
   rw [cnt_is] at hc;have ab:=ih.low
   have F:∀ v (h:v<L.length),L[v]≠(j:Int)→(kA (eM L j) (dV l L j) b (eF l L b j).2 (eF l L b j).1 (dV l L j).length)[v]? =(eF l L b j).1[v]? :=fun v h J=>Y.rest v fun k hk e=>by
    obtain ⟨_,_,_,u,_,⟨O,eu⟩,hp,_⟩:=U.at hk
    rw [hp] at e;subst e;exact J eu
   have X:∀ v (h:v<L.length),L[v]=(j:Int)→∃ k,k<(dV l L j).length∧(kA (eM L j) (dV l L j) b (eF l L b j).2 (eF l L b j).1 (dV l L j).length)[v]? =some ((eF l L b j).2+((k / b:Nat):Int)):=fun v h e=>by
    obtain ⟨k,hk,rfl⟩:=U.cover h e
    exact ⟨k,hk,Y.told k hk⟩
   have aa:∀ k,k<(dV l L j).length→((k / b:Nat):Int)<((((dV l L j).length+b - 1) / b:Nat):Int):=fun k hk=>by
    have:k / b+1≤((dV l L j).length+b - 1) / b:=by
     rw [← Nat.add_div_right k hb];exact Nat.div_le_div_right aA
    omega
   have hlt:∀ v (h:v<L.length) z,(eF l L b j).1[v]? =some z→z<(eF l L b j).2:=fun v h z e=>ih.rng hL z (List.mem_of_getElem? e)
   refine ⟨by rw [Y.len,ih.len],by dsimp only;have:=qn ((dV l L j).length+b - 1) b;omega,fun v h h1=>?_,fun v h h1 h2=>?_,fun u v O hv e=>?_,fun y hy=>?_⟩
   ·have J:L[v]≠(j:Int):=by
     rcases h1 with h1|h1
     ·omega
     ·intro e;rw [e] at h1;exact hc h1
    rw [F v h J];refine ih.same v h ?_
    rcases h1 with h1|h1
    ·left;omega
    ·exact .inr h1
   ·by_cases e:L[v]=(j:Int)
    ·obtain ⟨k,hk,Z⟩:=X v h e
     have:=aa k hk
     have h6:=qn k b
     exact ⟨_,Z,aA,by dsimp only;omega⟩
    ·rw [F v h e]
     obtain ⟨z,h3,h4,h5⟩:=ih.new v h aA h2
     have h6:=qn ((dV l L j).length+b - 1) b
     exact ⟨z,h3,h4,by dsimp only;omega⟩
   ·by_cases e1:L[u]=(j:Int)<;>by_cases e2:L[v]=(j:Int)
    ·rw [e1,e2]
    ·obtain ⟨k,hk,Z⟩:=X u O e1
     rw [Z,F v hv e2] at e;have:=hlt v hv _ e.symm
     have h6:=qn k b
     omega
    ·obtain ⟨k,hk,Z⟩:=X v hv e2
     rw [Z,F u O e1] at e;have:=hlt u O _ e
     have h6:=qn k b
     omega
    ·rw [F u O e1,F v hv e2] at e
     exact ih.fine u v O hv e
   ·dsimp only
    by_cases h1:y<(eF l L b j).2
    ·exact Nat.le_trans (Y.old y h1) (ih.size y hy)
    ·have:=Y.new (y - (eF l L b j).2).toNat
     rw [show (eF l L b j).2+(((y - (eF l L b j).2).toNat:Nat):Int)=y by omega] at this;omega
theorem cut_holds {l:List Arc} {L:List Int} {n b:Nat} (hR:eG (n:Int) L=true) (Y:1≤n) (hn:n≤1024) (hl:l.length≤8192) (hb:0<b):
  eG (n:Int) (cutL l L b)=true∧(∀ y,gJ (cutL l L b) y≤b)∧∀ u v:Nat,u<n→v<n→lab (cutL l L b) (u:Int)=lab (cutL l L b) (v:Int)→lab L (u:Int)=lab L (v:Int):=by
 obtain rfl:L.length=n:=(d6 hR).2
 have J:=e7 hR Y
 have F:=cut_inv (l:=l) hn hl hb (fun x hx=>by have:=J x hx;omega) (fC L+1).toNat
 obtain ⟨M,hM⟩:∃ M:Nat,(fC L+1).toNat=M:=⟨_,rfl⟩
 rw [hM] at F J;obtain ⟨o,ho⟩:∃ o,(eF l L b M).1=o:=⟨_,rfl⟩
 obtain ⟨nx,Z⟩:∃ nx,(eF l L b M).2=nx:=⟨_,rfl⟩
 have ec:cutL l L b=tdy o:=by unfold cutL;rw [hM,ho]
 rw [ho,Z] at F;rw [ec]
 have U:∀ y,gJ o y≤b:=fun y=>by
  by_cases hy:(L.length:Int)≤y
  ·exact F.size y hy
  ·by_cases O:gJ L y≤b
   ·refine Nat.le_trans ?_ O
    have key:∀ (p q:List Int),p.length=q.length→(∀ v (h:v<p.length) (h' :v<q.length),p[v]=y→q[v]=y)→gJ p y≤gJ q y:=by
     intro p
     induction p with
     |nil=>intro q _ _;exact Nat.zero_le _
     |cons x p ihp=>
      intro q hl hq
      cases q with
      |nil=>cases hl
      |cons z q=>
       have h1:=ihp q (by simpa using hl) (fun v h h' e=>by have:=hq (v+1) (by simpa using h) (by simpa using h') (by simpa using e);simpa using this)
       have h2:=hq 0 aO aO
       unfold gJ at h1 ⊢
       rw [List.filter_cons,List.filter_cons]
       by_cases e:x=y
       ·have:=h2 e
        simp only [List.getElem_cons_zero] at this;rw [if_pos (by simpa using e),if_pos (by simpa using this)];simp only [List.length_cons];omega
       ·rw [if_neg (by simpa using e)]
        split
        ·simp only [List.length_cons];omega
        ·exact h1
    refine key o L F.len fun v h h' e=>?_
    by_cases hc:(M:Int)≤L[v]∨gJ L L[v]≤b
    ·have:=F.same v h' hc
     rw [List.getElem?_eq_getElem h,e] at this;exact (Option.some.inj this).symm
    ·obtain ⟨z,h1,h2,h3⟩:=F.new v h' aA aA
     rw [List.getElem?_eq_getElem h,e] at h1;have:=Option.some.inj h1
     omega
   ·have:y∉o:=fun hm=>by
     obtain ⟨v,hv,e⟩:=List.mem_iff_getElem.1 hm
     have h' :v<L.length:=by rw [← F.len];exact hv
     by_cases hc:(M:Int)≤L[v]∨gJ L L[v]≤b
     ·have:=F.same v h' hc
      rw [List.getElem?_eq_getElem hv,e] at this;have:=Option.some.inj this
      rw [← this] at hc
      rcases hc with hc|hc
      ·have:=J y (by rw [this];exact List.getElem_mem h');omega
      ·exact O hc
     ·obtain ⟨z,h1,h2,h3⟩:=F.new v h' aA aA
      rw [List.getElem?_eq_getElem hv,e] at h1;have:=Option.some.inj h1
      omega
    rw [kT this];omega
 refine ⟨right_tdy F.len,fun y=>?_,fun u v hu hv e=>?_⟩
 ·have:=cntI_tdy (L:=o) (bd:=(b:Int)) aA (fun y=>by have:=U y;omega) y
  omega
 ·have X:u<o.length:=by rw [F.len];exact hu
  have ov:v<o.length:=by rw [F.len];exact hv
  rw [tdy_labN X ov,lS X,lS ov] at e;rw [lS hu,lS hv];exact F.fine u v hu hv (by rw [List.getElem?_eq_getElem X,List.getElem?_eq_getElem ov,e])
structure LSee (n:Nat) (rows:Nat→List Int) (L S:List Int) (bs:Nat) (w:World) (Al:Option Addr) (cl bo bz:Nat) (vs:List Value):Prop where
 cells:Ro (Fr w []) w (some ⟨bs,0,none⟩) [.slice Al L.length cl,.slice (some ⟨bo,0,none⟩) n n,.slice (some ⟨bz,0,none⟩) S.length S.length]
 labs:Ro (Fr w []) w Al (a8 L)
 side:Ro (Fr w []) w (some ⟨bo,0,none⟩) vs
 lv:vs.length=n
 row:∀ v,v<n→∃ A c,vs[v]? =some (.slice A (rows v).length c)∧Ro (Fr w []) w A (a8 (rows v))
 size:Ro (Fr w []) w (some ⟨bz,0,none⟩) (a8 S)
theorem LSee.up0 {n:Nat} {rows:Nat→List Int} {L S:List Int} {bs:Nat} {w w' :World} {Al:Option Addr} {cl bo bz:Nat} {vs:List Value} {m:Seg} (h:LSee n rows L S bs w Al cl bo bz vs) (hp:Hp (Fr w []) w m w'):LSee n rows L S bs w' Al cl bo bz vs:=
 ⟨h.cells.up0 hp,h.labs.up0 hp,h.side.up0 hp,h.lv,fun v hv=>by obtain ⟨A,c,h1,h2⟩:=h.row v hv;exact ⟨A,c,h1,h2.up0 hp⟩,h.size.up0 hp⟩
structure LOk (n:Nat) (rows:Nat→List Int) (L S:List Int):Prop where
 n1:1≤n∧n≤1024
 len:L.length=n
 lab:∀ x∈L,0≤x∧x<(S.length:Int)
 slen:S.length≤1024
 rlen:∀ v,v<n→(rows v).length≤16384
 rok:∀ v,v<n→∀ u∈rows v,0≤u∧u<(n:Int)
 sz:∀ x∈S,0≤x∧x≤1024
structure RowsC (E:TypeId) (n:Nat) (rows:Nat→List Int) (vs:List Value) (ms:List Seg):Prop where
 lv:vs.length=n
 lm:ms.length=n
 own : ∀ i (h : i < n), ∃ A c, vs[i]? = some (.slice A (rows i).length (rows i).length) ∧ Own E 1 (.slice A (rows i).length c) (rows i).length (a8 (rows i)) (ms[i]'(by rw [lm]; exact h))
abbrev pR (bs:Nat) (Al:Option Addr) (cl:Nat) (L:List Int) (ml:Seg) (bo n:Nat) (vs:List Value) (G:Seg) (bz:Nat) (S:List Int):List Seg:=
 [[(bs,blk [.slice Al L.length cl,.slice (some ⟨bo,0,none⟩) n n,.slice (some ⟨bz,0,none⟩) S.length S.length] 234)],ml,[(bo,blk vs 25)],G,[(bz,blk (a8 S) 3)]]
def LRep (n:Nat) (rows:Nat→List Int) (L S:List Int) (bs:Nat) (m:Seg):Prop:=∃ Al cl ml bo vs ms bz,m.Perm (pR bs Al cl L ml bo n vs ms.flatten bz S).flatten∧Own 3 1 (.slice Al L.length cl) L.length (a8 L) ml∧RowsC 3 n rows vs ms
theorem own_ints {E b c:Nat} {L L2:List Int} {sp:List Value} (h:Own E 1 (.slice (some ⟨b,0,none⟩) L.length c) L.length (a8 L) [(b,blk (a8 L++sp) E)]) (hl:L2.length=L.length):Own E 1 (.slice (some ⟨b,0,none⟩) L2.length c) L2.length (a8 L2) [(b,blk (a8 L2++sp) E)]:=by
 obtain ⟨_,h|⟨b',c',J,e,hm,h1,h2,h3⟩⟩:=h
 ·obtain ⟨e,_⟩:=h;cases e
 ·cases e
  have F:a8 L++sp=a8 L++J:=by simpa using hm
  have F:=List.append_cancel_left F
  subst F;exact ⟨by simp [a8],.inr ⟨b,c,sp,rfl,rfl,aA,h2,by rw [hl];exact h3⟩⟩
theorem aroundL_spec (n:Nat) (rows:Nat→List Int) (L S:List Int) (bs:Nat) (Al:Option Addr) (cl bo bz:Nat) (vs:List Value) (v:Nat) (w:World) (hs:LSee n rows L S bs w Al cl bo bz vs) (X:LOk n rows L S) (hv:v<n):
    Meets Tryz.prog 172 [.pointer (some ⟨bs,0,none⟩),.int .i64 (v:Int)] w [] (fun u own' =>∃ bm ents c,u= .map (some bm)∧own' =[[(bm,e9 (fun x:Int=> .int .i64 x) ents c)]]∧MOk ents c∧Cnts L (rows v) ents):=by
 obtain ⟨_,_,ac,U,J⟩:=hs.cells aO
 cases ac
 have hn:=X.n1
 have ao:=X.len
 have au:=X.slen
 obtain ⟨Ar,cr,ad,ak⟩:=hs.row v hv
 obtain ⟨_,_,am,ab,al⟩:=hs.side (fun e=>by have:=hs.lv;rw [e] at this;simp at this;omega)
 cases am
 have ap:=X.rlen v hv
 obtain ⟨_,_,aq⟩:∃ bl off,True:=⟨0,0,trivial⟩
 refine bG Tryz.func172 rfl Tryz.ntmps172 rfl Owns.nil<|aG fun kh1=>aB 1 rfl<|aD kh1<|aG fun kh2=>f_S (iY fun b8=>?_)
 refine aB 1 rfl<|aD kh2<|aV fun kh3=>aG fun ae=>aB 1 rfl<|f_Q (dD rfl)<|cN fa234_1 rfl<|f_Q (aH Tryz.isAgg32 rfl (rdS U (J 1 _ rfl)))<|aB 1 rfl<|f_Q (aM g5 rfl rfl (0+v)) ?_
 refine f_Q (aH Tryz.isAgg25 rfl (rdS ab (al v _ ad)))<|dY bU rfl<|aB 1 rfl<|aD ae<|aS ?_
 refine dF (α:=Nat×List (Int×Value×Nat)×Nat) [0,5,15,16] (fun ⟨k,ents,c⟩=>[(17,.int .i64 (k:Int))]) (fun ⟨k,ents,c⟩=>[[(b8,e9 (fun x:Int=> .int .i64 x) ents c)]]) (fun ⟨k,ents,c⟩=>k≤(rows v).length∧MOk ents c∧Cnts L ((rows v).take k) ents) (fun ⟨k,ents,c⟩=>(rows v).length - k) (0,[],0) ?_ ?_ ?_ ?_
 ·exact aF
 ·exact aC
 ·exact ⟨aA,MOk.nil,Cnts.nil L⟩
 ·rintro ⟨k,ents,c⟩ ⟨ar,F,Z⟩;refine aG fun kh5=>aB 1 rfl<|aD kh5<|aV fun kh6=>aX rfl (fun an=>?_) (fun an=>?_)
  ·have hk:k<(rows v).length:=aA
   obtain ⟨br,O,rfl,aj,aa⟩:=ak (fun e=>by have:=a7 (rows v);rw [e] at this;simp at this;omega)
   have hu:=X.rok v hv _ (List.getElem_mem hk)
   obtain ⟨bl,Y,rfl,ag,ah⟩:=hs.labs (fun e=>by have:=a7 L;rw [e] at this;simp at this;omega)
   have ai:=ncnt_le L ((rows v).take k) (lab L (rows v)[k])
   rw [List.length_take] at ai;refine bZ kh6<|aV fun kh7=>aS<|aG fun kh8=>f_Q (aM bU rfl rfl (O+k))<|f_Q (aH Tryz.isAgg3 rfl (eC (enc:=(.int .i64 ·)) aj aa hk))<|aB 1 rfl<|aD kh8<|aI<|aB 2 rfl ?_
   refine f_Q (dD rfl)<|cN mY rfl<|f_Q (aH Tryz.isAgg25 rfl (rdS U (J 0 _ rfl)))<|aB 1 rfl<|f_Q (aM bU rfl rfl (Y+(rows v)[k].toNat))<|f_Q (aH Tryz.isAgg3 rfl (show Rd _ _ _ _ _ (.int .i64 (lab L (rows v)[k])) by rw [oR aA];exact eC (enc:=(.int .i64 ·)) ag ah aA)) ?_;refine f_Q (fG kt201 Tryz.zeroValue3 rfl rfl rfl (.int .i64 (pK L ((rows v).take k) (lab L (rows v)[k]):Int)) (Z _))<|f_Q (bF rfl rfl)<|f_Z (fB kt201 rfl rfl rfl rfl ?_)
   refine aY<|dI<|bP kh7<|aI<|f_Q (bF rfl rfl)<|aB 1 rfl<|aY ?_
   refine cV (a6 (k+1,fW ents (lab L (rows v)[k]) (.int .i64 ((pK L ((rows v).take k) (lab L (rows v)[k]):Int)+1)) c,fM ents (lab L (rows v)[k]) c) (by first|omega|(dsimp only;omega)|(simp;omega)) ⟨aA,F.put _ _,Z.next hk⟩ ?_ ?_ ?_)
   ·exact aF
   ·exact aF
   ·exact aC
  ·refine cS<|cU<|cU<|eH<|bP kh3<|aG fun kh9=>aB 2 rfl<|aD kh9<|aZ ?_
   exact bO [[(b8,e9 (fun x:Int=> .int .i64 x) ents c)]] Tryz.results172 rfl (by repeat (first|exact aP|refine aL ?_)) ⟨b8,ents,c,rfl,rfl,F,by rw [List.take_of_length_le aA] at Z;exact Z⟩
theorem lnext_spec (n:Nat) (rows:Nat→List Int) (L S:List Int) (bs:Nat) (Al:Option Addr) (cl bo bz:Nat) (vs:List Value) (bd:Int) (w:World) (hs:LSee n rows L S bs w Al cl bo bz vs) (X:LOk n rows L S):
    Meets Tryz.prog 140 [.pointer (some ⟨bs,0,none⟩),.int .i64 bd] w [] (fun u own' =>u= .tuple #[.agg (mvCs (j9 L S rows bd n)).toArray,.bool (decide (0<(j9 L S rows bd n).2.2))]∧own' =[]):=by
 obtain ⟨_,_,ab,U,J⟩:=hs.cells aO
 cases ab
 have hn:=X.n1
 have am:=X.len
 have av:=X.slen
 refine bG Tryz.func140 rfl Tryz.ntmps140 rfl Owns.nil<|aG fun kh1=>f_S (cX Tryz.zeroValue229 rfl fun b4=>?_)
 refine aB 1 rfl<|aD kh1<|aG fun kh2=>f_S (cX Tryz.zeroValue229 rfl fun O=>?_)
 refine aD kh2<|aV fun kh3=>aG fun ac=>aB 1 rfl<|f_Q (dD rfl)<|cN fa234_1 rfl<|f_Q (aH Tryz.isAgg32 rfl (rdS U (J 1 _ rfl)))<|dY g5 rfl<|aB 1 rfl<|aD ac ?_
 refine aS ?_;refine dF (α:=Nat) [0,1,4,6,16] (fun k=>[(17,.int .i64 (k:Int))]) (fun k=>[[(b4,blk [.int .i64 0,.int .i64 0,.int .i64 0] 229)],[(O,blk (mvCs (j9 L S rows bd k)) 229)]]) (fun k=>k≤n) (fun k=>n - k) (0) ?_ ?_ ?_ ?_
 ·exact aF
 ·exact aC
 ·exact Nat.zero_le _
 ·rintro k au;refine aG fun kh5=>aB 1 rfl<|aD kh5<|aV fun kh6=>aX rfl (fun aj=>?_) (fun aj=>?_)
  ·have hk:k<n:=aA
   obtain ⟨bl,Y,rfl,ad,ae⟩:=hs.labs (fun e=>by have:=a7 L;rw [e] at this;simp at this;omega)
   have ap:=X.rlen k hk
   refine bZ kh6<|aV fun kh7=>aS<|aG fun kh8=>aB 2 rfl<|aD kh8<|aG fun kh9=>aB 1 rfl<|f_Q (dD rfl)<|cN mY rfl ?_
   refine f_Q (aH Tryz.isAgg25 rfl (rdS U (J 0 _ rfl)))<|aB 1 rfl<|f_Q (aM bU rfl rfl (Y+k))<|f_Q (aH Tryz.isAgg3 rfl (show Rd _ _ _ _ _ (.int .i64 (lab L (k:Int))) by rw [oR (by simp;omega)];exact eC (enc:=(.int .i64 ·)) ad ae aA)) ?_;refine aB 1 rfl<|aD kh9<|aG fun kh10=>aB 2 rfl ?_
   refine f_S (aW Tryz.call172 rfl (fun w_ Z=>aroundL_spec n rows L S bs _ cl bo bz vs k w_ (hs.up0 Z) X hk) ?_);rintro _ _ ⟨bm,ents,c,rfl,rfl,al,hC⟩;dsimp only [aK,aJ];refine aB 1 rfl<|aD kh10<|aG fun kh11=>aB 1 rfl<|f_Q (dD rfl)<|cN fa234_2 rfl<|f_Q (aH Tryz.isAgg25 rfl (rdS U (J 2 _ rfl)))<|dY bU rfl<|aB 1 rfl<|aD kh11 ?_
   refine aS ?_;refine dF (α:=Nat) [0,1,4,6,7,8,9,16,17,34] (fun j=>[(35,.int .i64 (j:Int))]) (fun j=>[[(b4,blk [.int .i64 0,.int .i64 0,.int .i64 0] 229)],[(O,blk (mvCs (jT L S (rows k) bd k j (j9 L S rows bd k))) 229)],[(bm,e9 (fun x:Int=> .int .i64 x) ents c)]]) (fun j=>j≤S.length) (fun j=>S.length - j) (0) ?_ ?_ ?_ ?_
   ·exact aF
   ·exact aC
   ·exact Nat.zero_le _
   ·rintro j ao;refine fJ (e:=[(35,_),(0,_),(1,_),(4,_),(6,_),(7,_),(8,_),(9,_),(16,_),(17,_),(34,_)]) aF ?_;refine aG fun kh12=>aB 1 rfl<|aD kh12<|aV fun kh13=>aX rfl (fun ak=>?_) (fun ak=>?_)
    ·have hj:j<S.length:=aA
     obtain ⟨_,_,ag,ah,aa⟩:=hs.size (fun e=>by have:=a7 S;rw [e] at this;simp at this;omega)
     cases ag
     have aq:=ncnt_le L (rows k) (j:Int)
     have ar:=ncnt_le L (rows k) (lab L (k:Int))
     have an:S.getD j 0=S[j]:=by simp [hj]
     refine bZ kh13<|aV fun kh14=>aS<|aG fun kh15=>aB 2 rfl<|aD kh15<|aG fun kh16=>aB 2 rfl<|f_Q (fG kt201 Tryz.zeroValue3 rfl rfl rfl (.int .i64 (pK L (rows k) (j:Int):Int)) (hC _))<|aB 2 rfl ?_
     refine f_Q (fG kt201 Tryz.zeroValue3 rfl rfl rfl (.int .i64 (pK L (rows k) (lab L (k:Int)):Int)) (hC _))<|f_Q (j5 rfl rfl _ (Eq.trans (d8 aA) (show _=gn L (rows k) (lab L (k:Int)) (j:Int) from rfl)))<|aB 1 rfl<|aD kh16<|aG fun kh17=>aB 4 rfl<|eA 48 rfl (fun g48=>?_) (fun g48=>?_)
     ·refine aB 2 rfl<|eI rfl rfl (fG kt201 Tryz.zeroValue3 rfl rfl rfl (.int .i64 (pK L (rows k) (j:Int):Int)) (hC _))<|aB 3 rfl<|eA 54 rfl (fun g54=>?_) (fun g54=>?_)
      ·refine aB 1 rfl<|eI rfl rfl (dD rfl)<|eI rfl rfl (aT fa234_2 rfl)<|eI rfl rfl (aH Tryz.isAgg25 rfl (rdS U (J 2 _ rfl)))<|aB 1 rfl<|eI rfl rfl (aM bU rfl rfl (0+j))<|eI rfl rfl (aH Tryz.isAgg3 rfl (eC (enc:=(.int .i64 ·)) ah aa hj))<|aB 4 rfl<|eA 65 rfl (fun g65=>?_) (fun g65=>?_)
       ·refine aB 1 rfl<|eI rfl rfl (aT fa229_2 rfl)<|eI rfl rfl (aH Tryz.isAgg3 rfl (rdA rfl))<|aB 2 rfl<|aD kh17<|aX rfl (fun c70=>?_) (fun c70=>?_)
        ·refine aI<|aB 3 rfl<|f_Q (dU (cs:=mvCs ((k:Int),(j:Int),gn L (rows k) (lab L (k:Int)) (j:Int))) st229 rfl rfl)<|f_Z (bS Tryz.sizeOf229 rfl rfl rfl rfl cG (mvCs ((k:Int),(j:Int),gn L (rows k) (lab L (k:Int)) (j:Int))) rfl ?_)
         refine aY<|dI<|bP kh14 ?_
         have F:jT L S (rows k) bd k (j+1) (j9 L S rows bd k)=((k:Int),(j:Int),gn L (rows k) (lab L (k:Int)) (j:Int)):=by rw [kN,mvUp,if_pos ⟨aA,aA,aA,aA⟩]
         refine lB O (mvCs (jT L S (rows k) bd k (j+1) (j9 L S rows bd k))) (by rw [F]) ?_;refine aI<|f_Q (bF rfl rfl)<|aB 1 rfl<|aY ?_
         refine cV (a6 (j+1) (by first|omega|(dsimp only;omega)|(simp;omega)) aA ?_ ?_ ?_)
         ·exact aF
         ·exact aF
         ·exact aC
        ·refine dZ<|dI<|bP kh14 ?_
         have F:jT L S (rows k) bd k (j+1) (j9 L S rows bd k)=jT L S (rows k) bd k j (j9 L S rows bd k):=by rw [kN,mvUp,if_neg (by rintro ⟨h1,h2,h3,h4⟩;omega)]
         refine lB O (mvCs (jT L S (rows k) bd k (j+1) (j9 L S rows bd k))) (by rw [F]) ?_;refine aI<|f_Q (bF rfl rfl)<|aB 1 rfl<|aY ?_
         refine cV (a6 (j+1) (by first|omega|(dsimp only;omega)|(simp;omega)) aA ?_ ?_ ?_)
         ·exact aF
         ·exact aF
         ·exact aC
       ·refine aB 5 rfl<|aD kh17<|h7 rfl<|dZ<|dI<|bP kh14 ?_
        have F:jT L S (rows k) bd k (j+1) (j9 L S rows bd k)=jT L S (rows k) bd k j (j9 L S rows bd k):=by rw [kN,mvUp,if_neg (by rintro ⟨h1,h2,h3,h4⟩;omega)]
        refine lB O (mvCs (jT L S (rows k) bd k (j+1) (j9 L S rows bd k))) (by rw [F]) ?_;refine aI<|f_Q (bF rfl rfl)<|aB 1 rfl<|aY ?_
        refine cV (a6 (j+1) (by first|omega|(dsimp only;omega)|(simp;omega)) aA ?_ ?_ ?_)
        ·exact aF
        ·exact aF
        ·exact aC
      ·refine aB 16 rfl<|aD kh17<|h7 rfl<|dZ<|dI<|bP kh14 ?_
       have F:jT L S (rows k) bd k (j+1) (j9 L S rows bd k)=jT L S (rows k) bd k j (j9 L S rows bd k):=by rw [kN,mvUp,if_neg (by rintro ⟨h1,h2,h3,h4⟩;omega)]
       refine lB O (mvCs (jT L S (rows k) bd k (j+1) (j9 L S rows bd k))) (by rw [F]) ?_;refine aI<|f_Q (bF rfl rfl)<|aB 1 rfl<|aY ?_
       refine cV (a6 (j+1) (by first|omega|(dsimp only;omega)|(simp;omega)) aA ?_ ?_ ?_)
       ·exact aF
       ·exact aF
       ·exact aC
     ·refine aB 22 rfl<|aD kh17<|h7 rfl<|dZ<|dI<|bP kh14 ?_
      have F:jT L S (rows k) bd k (j+1) (j9 L S rows bd k)=jT L S (rows k) bd k j (j9 L S rows bd k):=by rw [kN,mvUp,if_neg (by rintro ⟨h1,h2,h3,h4⟩;omega)]
      refine lB O (mvCs (jT L S (rows k) bd k (j+1) (j9 L S rows bd k))) (by rw [F]) ?_;refine aI<|f_Q (bF rfl rfl)<|aB 1 rfl<|aY ?_
      refine cV (a6 (j+1) (by first|omega|(dsimp only;omega)|(simp;omega)) aA ?_ ?_ ?_)
      ·exact aF
      ·exact aF
      ·exact aC
    ·have ai:j=S.length:=aA
     refine lB O (mvCs (j9 L S rows bd (k+1))) (by rw [mvTo_next,ai]) ?_;refine cS<|cU<|cU<|eH<|dI<|bP kh7<|aI<|f_Q (bF rfl rfl)<|aB 1 rfl<|aY ?_
     refine cV (a6 (k+1) (by first|omega|(dsimp only;omega)|(simp;omega)) aA ?_ ?_ ?_)
     ·exact aF
     ·exact aF
     ·exact aC
  ·refine cS<|cU<|cU<|eH<|bP kh3<|aV fun kh18=>?_
   obtain rfl:k=n:=aA
   refine cQ [[(O,blk (mvCs (j9 L S rows bd k)) 229)]] rfl<|f_T 0 rfl (aQ (vs:=[_,_,_]) Tryz.isAgg229 Tryz.sizeOf229 rfl rfl ⟨(rdA rfl),(rdA rfl),(rdA rfl),trivial⟩)<|f_T 1 rfl (aT fa229_2 rfl)<|f_T 2 rfl (aH Tryz.isAgg3 rfl (rdA rfl))<|f_T 3 rfl (o_gtr rfl rfl)<|fX 4 rfl (bS Tryz.sizeOf229 rfl rfl rfl rfl cG (mvCs (j9 L S rows bd k)) rfl ⟨aC,?_⟩)
   refine f_O 5 rfl ((bI rfl).does ⟨aC,?_⟩);refine cO aU<|bP kh18<|aZ ?_
   exact gT (vs:=mvCs (j9 L S rows bd k)) [] Tryz.results140 rfl Tryz.isAgg229 Tryz.sizeOf229 rfl ⟨(rdA rfl),(rdA rfl),(rdA rfl),trivial⟩ rfl aP ⟨rfl,rfl⟩
theorem do_spec (n:Nat) (rows:Nat→List Int) (L S:List Int) (bs:Nat) (m:Seg) (v j:Nat) (g:Int) (w:World) (hS:LRep n rows L S bs m) (hO:LOk n rows L S) (hv:v<n) (hj:j<S.length) (ho:Owns w [m]):
    Meets Tryz.prog 141 [.pointer (some ⟨bs,0,none⟩),.agg (mvCs ((v:Int),(j:Int),g)).toArray] w [m] (fun u own' =>∃ m',own' =[m']∧LRep n rows (tdy (L.set v (j:Int))) (szs (sns (L.set v (j:Int))).length (tdy (L.set v (j:Int)))) bs m'):=by
 refine bG Tryz.func141 rfl Tryz.ntmps141 rfl ho ?_;obtain ⟨Al,cl,ml,bo,vs,ms,bz,hm,ab,ah⟩:=hS
 refine eP (Sub.of_perm hm) ?_
 unfold pR
 have ag:=hO.len
 have ar:=hO.n1
 obtain ⟨bl,J,rfl,rfl⟩:=ab.at_ aA
 obtain ⟨L2,Y⟩:∃ L2,L2=L.set v (j:Int):=⟨_,rfl⟩
 rw [← Y];have ac:L2.length=n:=by rw [Y,List.length_set];exact ag
 refine aG fun ap=>f_S (cZ rfl rfl fun b3=>?_);refine aD ap<|aV fun kh2=>cQ [[(bs,blk [.slice (some ⟨bl,0,none⟩) L.length cl,.slice (some ⟨bo,0,none⟩) n n,.slice (some ⟨bz,0,none⟩) S.length S.length] 234)],[(b3,blk (mvCs ((v:Int),(j:Int),g)) 229)]] rfl<|f_T 0 rfl (aR rfl)<|f_T 1 rfl (dD rfl)<|f_T 2 rfl (aT mY rfl)<|f_T 3 rfl (aH Tryz.isAgg25 rfl (rdA rfl))<|f_T 4 rfl (aT fa229_0 rfl)<|f_T 5 rfl (aH Tryz.isAgg3 rfl (rdA rfl))<|f_T 6 rfl (aT fa229_1 rfl) ?_
 refine f_T 7 rfl (aH Tryz.isAgg3 rfl (rdA rfl))<|f_T 8 rfl (aM bU rfl rfl (v))<|fX 9 rfl (bQ Tryz.sizeOf3 rfl rfl rfl rfl (by rw [List.length_append,a7];omega) (a8 L2++J) (by rw [Y,List.set_append_left _ _ (by rw [a7];omega)];simp [a8,List.map_set]) ⟨aC,?_⟩)
 refine cO aU<|bP kh2<|aG fun kh3=>f_S (iY fun ak=>?_)
 refine aB 1 rfl<|aD kh3<|aV fun kh4=>aG fun ao=>aB 1 rfl<|f_Q (dD rfl)<|cN mY rfl<|c7 Tryz.isAgg25 rfl (rdA rfl)<|dY bU rfl<|aB 1 rfl ?_
 refine aD ao<|aS ?_
 refine dF (α:=Nat×List (Int×Value×Nat)×Nat) [0,4,24,25] (fun ⟨k,ents,c⟩=>[(26,.int .i64 (k:Int))]) (fun ⟨k,ents,c⟩=>[[(bs,blk [.slice (some ⟨bl,0,none⟩) L.length cl,.slice (some ⟨bo,0,none⟩) n n,.slice (some ⟨bz,0,none⟩) S.length S.length] 234)],[(bl,blk (a8 (l1 L2 k)++J) 3)],[(bo,blk vs 25)],ms.flatten,[(ak,e9 (fun x:Int=> .int .i64 x) ents c)]]) (fun ⟨k,ents,c⟩=>k≤n∧MOk ents c∧Nums (sns (L2.take k)) ents) (fun ⟨k,ents,c⟩=>n - k) (0,[],0) ?_ ?_ ?_ ?_
 · exact aF
 · dsimp only
   rw [tdyTo_zero];exact aC
 · exact ⟨aA,MOk.nil,Nums.nil⟩
 ·
  rintro ⟨k,ents,c⟩ ⟨au,U,F⟩;refine aG fun kh6=>aB 1 rfl<|aD kh6<|aV fun kh7=>aX rfl (fun an=>?_) (fun an=>?_)
  ·
   have hk:k<L2.length:=aA
   have O:=nG hk
   have ad:=sns_len (L:=L2) (k:=k) aA
   refine bZ kh7<|aV fun kh8=>aS<|aG fun kh9=>aB 1 rfl<|f_Q (aM bU rfl rfl (k))<|f_Q (aH Tryz.isAgg3 rfl (rdA (v:= .int .i64 L2[k]) (d7 (by rw [d9 (by rw [iT];exact hk),tdyTo_get hk])))) ?_
   refine aB 2 rfl<|aD kh9<|aG fun kh10=>aB 2 rfl<|f_Q (o_lookup2 kt201 Tryz.zeroValue3 rfl rfl rfl (.int .i64 (if L2[k]∈sns (L2.take k) then (((sns (L2.take k)).idxOf L2[k]:Nat):Int) else 0)) (by rw [F.2];split<;>rfl) (decide (L2[k]∈sns (L2.take k))) (by rw [F.2];split<;>simp_all)) ?_
   refine aB 5 rfl<|aD kh10<|aV fun kh11=>aG fun kh12=>aB 2 rfl<|aD kh12<|e8 rfl (fun c38=>?_) (fun c38=>?_)
   ·
    have hx:L2[k]∉sns (L2.take k):=by simpa using c38
    rw [if_neg hx] at O;have ae:ents.length=(sns (L2.take (k+1))).idxOf L2[k]:=by rw [O,List.idxOf_append,if_neg hx,F.1];simp
    refine aG fun Z=>aB 1 rfl<|f_Q (o_lenM kt201.und rfl)<|aB 1 rfl<|aD Z<|aI<|aB 3 rfl<|f_Z (fB kt201 rfl rfl rfl rfl ?_)
    refine aD kh11<|aI<|aB 1 rfl<|f_Q (dD rfl)<|cN mY rfl<|c7 Tryz.isAgg25 rfl (rdA rfl)<|aB 2 rfl<|f_Q (aM bU rfl rfl (k))<|f_Z (bQ Tryz.sizeOf3 rfl rfl rfl rfl (by rw [List.length_append,a7,iT];omega) (a8 (l1 L2 (k+1))++J) (by rw [p8 hk ae,List.set_append_left _ _ (by rw [a7,iT];omega)];simp [a8,List.map_set]) ?_)
    refine aY<|dI<|bP kh8<|aI<|f_Q (bF rfl rfl)<|aB 1 rfl<|aY ?_
    refine cV (a6 (k+1,fW ents L2[k] (.int .i64 (ents.length:Int)) c,fM ents L2[k] c) (by first|omega|(dsimp only;omega)|(simp;omega)) ⟨aA,U.put _ _,by rw [O];have:=F.add hx c;rw [← F.1] at this;exact this⟩ ?_ ?_ ?_)
    · exact aF
    · exact aF
    · exact aC
   ·
    have hx:L2[k]∈sns (L2.take k):=by simpa using c38
    rw [if_pos hx] at O;have al:(sns (L2.take k)).idxOf L2[k]=(sns (L2.take (k+1))).idxOf L2[k]:=by rw [O]
    refine f_reC 7 rfl (v:= .int .i64 (((sns (L2.take k)).idxOf L2[k]:Nat):Int)) (by rw [if_pos hx]) ?_;refine bZ kh11<|aI<|aB 1 rfl<|f_Q (dD rfl)<|cN mY rfl<|c7 Tryz.isAgg25 rfl (rdA rfl)<|aB 2 rfl<|f_Q (aM bU rfl rfl (k))<|f_Z (bQ Tryz.sizeOf3 rfl rfl rfl rfl (by rw [List.length_append,a7,iT];omega) (a8 (l1 L2 (k+1))++J) (by rw [p8 hk al,List.set_append_left _ _ (by rw [a7,iT];omega)];simp [a8,List.map_set]) ?_)
    refine aY<|dI<|bP kh8<|aI<|f_Q (bF rfl rfl)<|aB 1 rfl<|aY ?_
    refine cV (a6 (k+1,ents,c) (by first|omega|(dsimp only;omega)|(simp;omega)) ⟨aA,U,by rw [O];exact F⟩ ?_ ?_ ?_)
    · exact aF
    · exact aF
    · exact aC
  ·
   refine cS<|cU<|cU<|eH<|bP kh4<|aV fun kh14=>?_
   have aa:k=n:=aA
   rw [List.take_of_length_le aA] at F;have ai:=F.1
   have ad:=sns_len (L:=L2) (k:=k) aA
   rw [List.take_of_length_le aA] at ad;refine lB bl (a8 (tdy L2)++J) (by rw [aa,← ac,tdyTo_all]) ?_;refine aI<|aB 2 rfl<|f_Q (o_lenM kt201.und rfl)<|f_S (e6 eO rfl rfl ents.length rfl aA aA (a8 (szs ents.length [])) (by rw [szs_nil];simp [a8,List.flatten_replicate_singleton]) fun b55=>?_)
   refine f_Q (dD rfl)<|cN fa234_2 rfl<|f_Z (bQ Tryz.sizeOf25 rfl rfl rfl rfl cG [.slice (some ⟨bl,0,none⟩) L.length cl,.slice (some ⟨bo,0,none⟩) n n,.slice (some ⟨b55,0,none⟩) ents.length ents.length] rfl ?_)
   refine aD kh14<|aG fun kh15=>aB 1 rfl<|f_Q (dD rfl)<|cN mY rfl<|c7 Tryz.isAgg25 rfl (rdA rfl)<|dY bU rfl<|aB 1 rfl<|aD kh15<|aS ?_
   refine dF (α:=Nat) [0,61,62] (fun q=>[(63,.int .i64 (q:Int))]) (fun q=>[[(bs,blk [.slice (some ⟨bl,0,none⟩) L.length cl,.slice (some ⟨bo,0,none⟩) n n,.slice (some ⟨b55,0,none⟩) ents.length ents.length] 234)],[(bl,blk (a8 (tdy L2)++J) 3)],[(bo,blk vs 25)],ms.flatten,[(b55,blk (a8 (szs ents.length ((tdy L2).take q))) 3)]]) (fun q=>q≤n) (fun q=>n - q) (0) ?_ ?_ ?_ ?_
   · exact aF
   · exact aC
   · exact Nat.zero_le _
   ·
    rintro q aq;refine fJ (e:=[(63,_),(0,_),(61,_),(62,_)]) aF ?_;refine aG fun kh16=>aB 1 rfl<|aD kh16<|aV fun kh17=>aX rfl (fun aj=>?_) (fun aj=>?_)
    ·
     have hq:q<(tdy L2).length:=by rw [gI];omega
     have av:=tdy_rng _ (List.getElem_mem hq)
     obtain ⟨y,hy⟩:∃ y:Nat,(tdy L2)[q]=(y:Int):=⟨(tdy L2)[q].toNat,aA⟩
     have X:y<ents.length:=aA
     have am:=cnt_le ((tdy L2).take q) y
     rw [List.length_take] at am;refine bZ kh17<|aV fun kh18=>aS<|aG fun kh19=>f_Q (aM bU rfl rfl (q))<|f_Q (aH Tryz.isAgg3 rfl (rdA (v:= .int .i64 (y:Int)) (d7 (by rw [d9 hq,hy])))) ?_
     refine aB 1 rfl<|aD kh19<|aI<|aB 1 rfl<|f_Q (dD rfl)<|cN fa234_2 rfl<|c7 Tryz.isAgg25 rfl (rdA rfl)<|aB 1 rfl<|f_Q (aM bU rfl rfl (y))<|f_Q (aH Tryz.isAgg3 rfl (rdA (v:= .int .i64 (cnt ((tdy L2).take q) y:Int)) (by rw [d9 (by rw [gO];exact X),kU X]))) ?_
     refine f_Q (bF rfl rfl)<|f_Q (aM bU rfl rfl (y))<|f_Z (bQ Tryz.sizeOf3 rfl rfl rfl rfl (by rw [a7,gO];omega) (a8 (szs ents.length ((tdy L2).take (q+1)))) (by rw [szs_next hq hy X];simp [a8]) ?_)
     refine aY<|dI<|bP kh18<|aI<|f_Q (bF rfl rfl)<|aB 1 rfl<|aY ?_
     refine cV (a6 (q+1) (by first|omega|(dsimp only;omega)|(simp;omega)) aA ?_ ?_ ?_)
     · exact aF
     · exact aF
     · exact aC
    ·
     refine cS<|cU<|cU<|eH ?_
     rw [List.take_of_length_le (by rw [gI];omega)];exact iR [(pR bs (some ⟨bl,0,none⟩) cl (tdy L2) [(bl,blk (a8 (tdy L2)++J) 3)] bo n vs ms.flatten b55 (szs ents.length (tdy L2))).flatten] Tryz.results141 (Sub.flat (by unfold pR;rw [gI,gO,show L2.length=L.length by omega];repeat (first|exact aP|refine aL ?_))) ⟨_,rfl,by rw [← ai];exact ⟨_,cl,_,bo,vs,ms,b55,List.Perm.refl _,own_ints ab (by rw [gI];omega),ah⟩⟩
theorem glooked_zero {N:Int} {l:List Arc} {v:Int} (h:j2 N l v=0):(cL N l).2=0∧0≤v∧v<N:=by
 unfold j2 at h
 split at h
 ·rename_i h1;exact absurd h h1
 ·split at h
  ·simp at h
  ·rename_i h1 h2;exact ⟨by simpa using h1,aA,aA⟩
def NbΦ (N:Int) (l:List Arc) (v:Int) (u:Value) (own:List Seg):Prop:=
 ∃ A W c m,u= .tuple #[.slice A W.length W.length,.int .i64 (j2 N l v)]∧own=[m]∧Own 3 1 (.slice A W.length c) W.length (a8 W) m∧W=if j2 N l v=0 then dS v l else []
theorem Neighbours_spec (N:Int) (A:Option Addr) (l:List Arc) (cap:Nat) (v:Int) (w:World) (hr:Ro (Fr w []) w A (l.flatMap cH)) (hl:l.length≤9223372036854775807) (hN:I64 N) (hok:∀ x∈l,eN x):
    Meets Tryz.prog 189 [.agg #[.int .i64 N,.slice A l.length cap],.int .i64 v] w [] (NbΦ N l v):=by
 refine bG Tryz.func189 rfl Tryz.ntmps189 rfl Owns.nil<|aG fun kh1=>f_S (cZ rfl rfl fun b2=>?_)
 refine aB 2 rfl<|aD kh1<|aV fun kh2=>aG fun kh3=>f_Q (aQ (vs:=[_,_]) Tryz.isAgg24 Tryz.sizeOf24 rfl rfl ⟨(rdA rfl),(rdA rfl),trivial⟩)<|aB 1 rfl ?_
 refine f_S (aW Tryz.call197 rfl (fun X F=>looked_spec N A l cap v X (hr.up0 F) hl hN hok) ?_);rintro _ _ ⟨rfl,rfl⟩;dsimp only [aK,aJ];refine aB 1 rfl<|aD kh3<|aG fun kh4=>aB 2 rfl<|aD kh4<|aX rfl (fun c14=>?_) (fun c14=>?_)
 ·refine aG fun ai=>aB 3 rfl<|aD ai<|aZ<|dA ?_
  exact dB [[]] Tryz.results189 rfl rfl Sub.empty ⟨none,[],0,[],rfl,rfl,Own.nil _ _,by rw [if_neg (by simpa using c14)]⟩
 ·have hz:j2 N l v=0:=by simpa using c14
  obtain ⟨ae,ao,am⟩:=glooked_zero hz
  have hlen:=(cF ae).2.2.1
  refine bZ kh2<|aG fun kh6=>aB 1 rfl<|aD kh6<|aV fun kh7=>aG fun ag=>cN gM rfl<|c7 Tryz.isAgg22 rfl (rdA rfl)<|dY j7 rfl<|aB 1 rfl ?_
  refine aD ag<|aS ?_
  refine dF (α:=Nat×Value×Seg) [1,17,18] (fun ⟨i,ov,J⟩=>[(19,.int .i64 (i:Int)),(7,ov)]) (fun ⟨i,ov,J⟩=>[J,[(b2,blk [.int .i64 N,.slice A l.length cap] 24)]]) (fun ⟨i,ov,J⟩=>i≤l.length∧Own 3 1 ov ((l.take i).flatMap (nbr v)).length (a8 ((l.take i).flatMap (nbr v))) J) (fun ⟨i,ov,J⟩=>l.length - i) (0,.slice none 0 0,[]) ?_ ?_ ?_ ?_
  ·exact aF
  ·exact aC
  ·exact ⟨Nat.zero_le _,Own.nil _ _⟩
  ·rintro ⟨i,ov,J⟩ ⟨an,U⟩;obtain ⟨Ao,co,rfl,ap⟩:=U.val
   have Y:=qL v (l.take i)
   rw [List.length_take] at Y;refine aG fun kh9=>aB 1 rfl<|aD kh9<|aV fun kh10=>aX rfl (fun ak=>?_) (fun ak=>?_)
   ·refine bZ kh10<|aV fun kh11=>aS<|aG fun kh12=>?_
    have hi:i<l.length:=aA
    obtain ⟨bq,off,rfl,hS,hc⟩:=hr (fH cH dO aA hi)
    refine f_Q (aM j7 rfl rfl (off+i*3))<|f_Q (aQ (vs:=cH l[i]) Tryz.isAgg69 Tryz.sizeOf69 rfl rfl (gV dO hS hc hi))<|f_S (cX Tryz.zeroValue69 rfl fun b9=>?_)
    refine f_Z (bS Tryz.sizeOf69 rfl rfl rfl rfl cG (cH l[i]) rfl ?_);refine aD kh12<|aS<|aG fun kh13=>cN gC rfl<|c7 Tryz.isAgg3 rfl (rdA rfl)<|cN fT rfl<|c7 Tryz.isAgg3 rfl (rdA rfl)<|aB 2 rfl<|aD kh13<|aX rfl (fun c23=>?_) (fun c23=>?_)
    ·refine dZ<|dI<|dI<|bP kh11<|aI<|f_Q (bF rfl rfl)<|aB 1 rfl<|aY ?_
     refine cV (a6 (i+1,.slice Ao ((l.take i).flatMap (nbr v)).length co,J) (by first|omega|(dsimp only;omega)|(simp;omega)) ⟨aA,by rw [pM hi,show nbr v l[i]=[] from if_pos c23,List.append_nil];exact U⟩ ?_ ?_ ?_)
     ·exact aF
     ·exact aF
     ·exact aC
    ·refine aG fun kh14=>cN gC rfl<|c7 Tryz.isAgg3 rfl (rdA rfl)<|aB 3 rfl<|aD kh14<|aX rfl (fun c29=>?_) (fun c29=>?_)
     ·refine aI<|aB 1 rfl<|cN fT rfl<|c7 Tryz.isAgg3 rfl (rdA rfl)<|f_S (bX eO aA rfl rfl rfl fun b37=>?_)
      refine f_S (dJ eO rfl rfl U (ys:=[.int .i64 l[i].dst]) ⟨(rdA rfl),trivial⟩ rfl rfl aA aA fun ab aj ah=>?_);refine aB 1 rfl<|aY<|dI<|dI<|bP kh11<|aI<|f_Q (bF rfl rfl)<|aB 1 rfl<|aY ?_
      refine cV (a6 (i+1,ab,aj) (by first|omega|(dsimp only;omega)|(simp;omega)) ⟨aA,by rw [pM hi,show nbr v l[i]=[l[i].dst] from by unfold nbr;rw [if_neg c23,if_pos c29],List.length_append,eL];exact ah⟩ ?_ ?_ ?_)
      ·exact aF
      ·exact aF
      ·exact aC
     ·refine aG fun kh15=>cN fT rfl<|c7 Tryz.isAgg3 rfl (rdA rfl)<|aB 3 rfl<|aD kh15<|aX rfl (fun c39=>?_) (fun c39=>?_)
      ·refine aI<|aB 1 rfl<|cN gC rfl<|c7 Tryz.isAgg3 rfl (rdA rfl)<|f_S (bX eO aA rfl rfl rfl fun b47=>?_)
       refine f_S (dJ eO rfl rfl U (ys:=[.int .i64 l[i].src]) ⟨(rdA rfl),trivial⟩ rfl rfl aA aA fun ac al ad=>?_);refine aB 1 rfl<|aY<|dI<|dI<|bP kh11<|aI<|f_Q (bF rfl rfl)<|aB 1 rfl<|aY ?_
       refine cV (a6 (i+1,ac,al) (by first|omega|(dsimp only;omega)|(simp;omega)) ⟨aA,by rw [pM hi,show nbr v l[i]=[l[i].src] from by unfold nbr;rw [if_neg c23,if_neg c29,if_pos c39],List.length_append,eL];exact ad⟩ ?_ ?_ ?_)
       ·exact aF
       ·exact aF
       ·exact aC
      ·refine dZ<|dI<|dI<|bP kh11<|aI<|f_Q (bF rfl rfl)<|aB 1 rfl<|aY ?_
       refine cV (a6 (i+1,.slice Ao ((l.take i).flatMap (nbr v)).length co,J) (by first|omega|(dsimp only;omega)|(simp;omega)) ⟨aA,by rw [pM hi,show nbr v l[i]=[] from by unfold nbr;rw [if_neg c23,if_neg c29,if_neg c39],List.append_nil];exact U⟩ ?_ ?_ ?_)
       ·exact aF
       ·exact aF
       ·exact aC
   ·refine cS<|cU<|cU<|eH<|bP kh7<|aV fun kh16=>?_
    obtain rfl:i=l.length:=aA
    rw [List.take_length] at U Y ⊢;refine aI<|aB 1 rfl ?_
    refine f_S (d5 [J] _ Tryz.call22 rfl (aL Sub.refl) (fun X F=>lZ Ao co _ J X U aA F.owns) ?_);rintro _ _ ⟨rfl,m2,rfl,aa⟩;dsimp only [aK,aJ];refine aD kh16<|aG fun kh17=>aB 1 rfl ?_
    refine f_S (d5 [m2] _ Tryz.call24 rfl (aL Sub.refl) (fun X F=>(by have h:=nB Ao co (iU (l.flatMap (nbr v))) m2 X (by rw [fP];exact aa) (by rw [fP];omega) F.owns;rw [fP] at h;exact h)) ?_);rintro v53 _ ⟨m3,rfl,O⟩;obtain ⟨A3,c3,rfl,Z⟩:=O.val
    dsimp only [aK,aJ];refine f_S (aW Tryz.call159 rfl (fun X F=>Clip_spec A3 (cpt (iU (l.flatMap (nbr v)))).length c3 X Z.1 Z.2 (kX O)) ?_);rintro _ _ ⟨rfl,rfl⟩;dsimp only [aK,aJ];refine aB 2 rfl<|aD kh17<|aZ ?_
    exact dB [m3] Tryz.results189 rfl rfl (by repeat (first|exact aP|refine aL ?_|refine bV rfl ?_)) ⟨A3,dS v l,c3,m3,by rw [hz];rfl,rfl,O,by rw [if_pos hz]⟩
theorem ints_oneC (l:List Int):(a8 l).all (·.oneCell')=true:=by
 rw [List.all_eq_true];intro x hx;obtain ⟨s,_,rfl⟩:=List.mem_map.1 hx;rfl
theorem rep_flatL (n:Nat) (z:Value):(List.replicate n [z]).flatten=List.replicate n z:=by
 induction n with
 |zero=>rfl
 |succ n ih=>simp only [List.replicate_succ,List.flatten_cons,ih];rfl
theorem RowsC.start (E:TypeId) (n:Nat) (r:Nat→List Int):RowsC E n (fun i=>if i<0 then r i else []) (List.replicate n (.slice none 0 0)) (List.replicate n []):=
 ⟨aO,aO,fun i h=>⟨none,0,by simp [h],by simpa [a8] using Own.nil E 1⟩⟩
theorem RowsC.next {E:TypeId} {n k:Nat} {r:Nat→List Int} {vs:List Value} {ms:List Seg} (h:RowsC E n (fun i=>if i<k then r i else []) vs ms) (hk:k<n) {A:Option Addr} {c:Nat} {m:Seg} (ho:Own E 1 (.slice A (r k).length c) (r k).length (a8 (r k)) m):
  RowsC E n (fun i=>if i<k+1 then r i else []) (vs.set k (.slice A (r k).length (r k).length)) (ms.set k m) where
 lv:=by rw [List.length_set];exact h.lv
 lm:=by rw [List.length_set];exact h.lm
 own:=fun i hi=>by
  by_cases e:k=i
  ·subst e
   refine ⟨A,c,?_,?_⟩
   ·rw [List.getElem?_set_self (by rw [h.lv];exact hk),if_pos aA]
   ·rw [if_pos aA,List.getElem_set_self];exact ho
  ·obtain ⟨A',c',h1,h2⟩:=h.own i hi
   refine ⟨A',c',?_,?_⟩
   ·rw [List.getElem?_set_ne e,h1]
    by_cases F:i<k
    ·rw [if_pos F,if_pos aA]
    ·rw [if_neg F,if_neg aA]
   ·rw [List.getElem_set_ne e]
    by_cases F:i<k
    ·rw [if_pos F] at h2;rw [if_pos aA];exact h2
    ·rw [if_neg F] at h2;rw [if_neg aA];exact h2
theorem RowsC.all {E:TypeId} {n:Nat} {r:Nat→List Int} {vs:List Value} {ms:List Seg} (h:RowsC E n (fun i=>if i<n then r i else []) vs ms):RowsC E n r vs ms:=
 ⟨h.lv,h.lm,fun i hi=>by have:=h.own i hi;simpa only [if_pos hi] using this⟩
theorem flat_put {ms:List Seg} {k:Nat} (hk:ms[k]? =some []) (m:Seg):(m++ms.flatten).Perm (ms.set k m).flatten:=by
 obtain ⟨hlt,he⟩:=List.getElem?_eq_some_iff.1 hk
 have h1:=gL ms k hlt
 rw [he,List.nil_append] at h1;have h2:=gL (ms.set k m) k (by simpa using hlt)
 rw [List.getElem_set_self,List.eraseIdx_set_eq] at h2;exact (h1.append_left m).trans h2.symm
theorem CloneI_spec (A:Option Addr) (len:Nat) (cs:List Value) (cap:Nat) (w:World) (hs:Ro (Fr w []) w A cs) (hn:A=none→len=0) (hl:cs.length=len*1) (hone:cs.all (·.oneCell')=true) (U:len≤1000000000):
    Meets Tryz.prog 56 [.slice A len cap] w [] (fun u own' =>∃ m,own' =[m]∧Own 3 1 u len cs m):=by
 refine bG Tryz.func56 rfl Tryz.ntmps56 rfl Owns.nil<|aG fun kh1=>aB 1 rfl<|aD kh1<|aV fun kh2=>aG fun kh3=>aB 1 rfl<|f_Q (o_eqlSl Tryz.underlying25 rfl rfl)<|aD kh3<|e8 rfl (fun c4=>?_) (fun c4=>?_)
 ·obtain rfl:A=none:=by cases A<;>first|rfl|simp at c4
  obtain rfl:len=0:=hn rfl
  obtain rfl:cs=[]:=List.eq_nil_of_length_eq_zero (by simpa using hl)
  refine aG fun F=>aB 1 rfl<|aD F<|aZ<|dA ?_
  exact bO [[]] Tryz.results56 rfl Sub.empty ⟨[],rfl,Own.nil _ _⟩
 ·refine bZ kh2<|aG fun kh5=>f_S (o_slice0 eO fun X=>?_)
  refine aB 1 rfl<|f_S (pJ eO rfl rfl (Own.mk (b:=X) (cs:=[]) (len:=0) rfl aA) (ys:=cs) (fun J=>by obtain ⟨b,off,e,Z,hc⟩:=hs J;exact ⟨b,off,e,Seen.rds fun _=>⟨Z,hc⟩⟩) hl hone aA aA fun v7 O Y=>?_)
  refine aB 1 rfl<|aD kh5<|aZ ?_
  exact bO [O] Tryz.results56 rfl (by repeat (first|exact aP|refine aL ?_)) ⟨O,rfl,by simpa using Y⟩
theorem lbegin_spec (n:Nat) (A B:Option Addr) (l:List Arc) (cap:Nat) (L:List Int) (cb:Nat) (w:World) (hr:Ro (Fr w []) w A (l.flatMap cH)) (hok:∀ x∈l,eN x) (hg:(cL (n:Int) l).2=0) (hL:Ro (Fr w []) w B (a8 L)) (ao:eG (n:Int) L=true):
    Meets Tryz.prog 171 [.agg #[.int .i64 (n:Int),.slice A l.length cap],.slice B L.length cb] w [] (fun u own' =>∃ bs m,u= .pointer (some ⟨bs,0,none⟩)∧own' =[m]∧LRep n (fun v=>dS (v:Int) l) L (d3 L) bs m):=by
 obtain ⟨aw,ax,hlen,au⟩:=cF hg
 have Y:=ao
 unfold eG at Y
 simp only [Bool.and_eq_true,decide_eq_true_eq] at Y;have ar:L.length=n:=aA
 have h0:0<L.length:=aA
 have ah:=rgo_pos Y.1
 have am:=rgo_lt Y.1
 have aq:0≤fC L:=Int.le_trans (ah L[0] (List.getElem_mem h0)) (iL (List.getElem_mem h0))
 have av:fC L≤1023:=mU h0 fun x hx=>by have:=am x hx;omega
 obtain ⟨M,hM⟩:∃ M:Nat,fC L+1=(M:Int):=⟨(fC L+1).toNat,aA⟩
 have hN:I64 (n:Int):=by unfold I64;omega
 obtain ⟨bb,ob,rfl,al,ak⟩:=hL (fun e=>by have:=a7 L;rw [e] at this;simp at this;omega)
 refine bG Tryz.func171 rfl Tryz.ntmps171 rfl Owns.nil<|aG fun kh1=>f_S (cZ rfl rfl fun b2=>?_)
 refine aB 1 rfl<|aD kh1 ?_
 refine oU (α:=Nat×Nat×Nat×Option Addr×Nat×Seg) [1,2] (fun ⟨b17,F,J,O,X,Z⟩=>[(5,.pointer (some ⟨b17,0,none⟩))]) (fun ⟨b17,F,J,O,X,Z⟩=>[[(b17,blk [.slice O L.length X,.slice (some ⟨F,0,none⟩) n n,.slice (some ⟨J,0,none⟩) M M] 234)],Z,[(F,blk (List.replicate n (.slice none 0 0)) 25)],[(J,blk (a8 (szs M [])) 3)],[(b2,blk [.int .i64 (n:Int),.slice A l.length cap] 24)]]) (fun ⟨b17,F,J,O,X,Z⟩=>Own 3 1 (.slice O L.length X) L.length (a8 L) Z) ?_ ?_
 ·
  intro K2 ab;refine cQ [[(b2,blk [.int .i64 (n:Int),.slice A l.length cap] 24)]] rfl<|f_T 0 rfl (aR rfl)<|f_T 2 rfl (aT eV rfl)<|f_T 3 rfl (aH Tryz.isAgg3 rfl (rdA rfl))<|f_T 5 rfl (aR rfl)<|gD 1 4 rfl rfl aU rfl rfl rfl rfl rfl rfl ?_ ?_
  ·
   refine (aW Tryz.call56 rfl (fun w_ U=>CloneI_spec _ L.length (a8 L) cb w_ (hL.up0 U) (fun e=>by cases e) (by rw [a7];omega) (ints_oneC _) aA) ?_);rintro v8 _ ⟨Z,rfl,o8⟩;obtain ⟨O,X,rfl,_⟩:=o8.val
   dsimp only [aK,aJ];refine ⟨aC,?_⟩;refine gD 4 6 rfl rfl aU rfl rfl rfl rfl rfl rfl ?_ ?_
   ·
    refine (e6 el32 rfl rfl n rfl aA aA (List.replicate n (.slice none 0 0)) (rep_flatL n _) fun F=>⟨aC,?_⟩);refine f_O 6 rfl (aW Tryz.call87 rfl (fun w_ U=>nZ _ L cb w_ (hL.up0 U) h0 aA) ?_);rintro _ _ ⟨rfl,rfl⟩;dsimp only [aK,aJ];refine ⟨aC,?_⟩;refine f_T 7 rfl (kY rfl rfl _ (show IntKind.i64.wrap (fC L+1)=(M:Int) from by rw [d8 aA];omega)) ?_;refine f_O 8 rfl (e6 eO rfl rfl M rfl aA aA (a8 (szs M [])) (by rw [szs_nil];simp [a8,List.flatten_replicate_singleton]) fun J=>⟨aC,?_⟩);refine f_T 9 rfl (dU (cs:=[.slice O L.length X,.slice (some ⟨F,0,none⟩) n n,.slice (some ⟨J,0,none⟩) M M]) st234 rfl rfl)<|f_O 10 rfl (cZ rfl rfl fun b17=>⟨aC,?_⟩)
    refine f_O 11 rfl ((bI rfl).does ⟨aC,?_⟩);refine cO aU<|cV (ab _ _ (b17,F,J,O,X,Z) o8 ?_ ?_ ?_)
    · exact aF
    · exact aF
    · exact aC
   ·
    refine (aW Tryz.call87 rfl (fun w_ U=>nZ _ L cb w_ (hL.up0 U) h0 aA) ?_);rintro _ _ ⟨rfl,rfl⟩;dsimp only [aK,aJ];refine ⟨aC,?_⟩;refine f_T 7 rfl (kY rfl rfl _ (show IntKind.i64.wrap (fC L+1)=(M:Int) from by rw [d8 aA];omega)) ?_;refine gD 4 8 rfl rfl aU rfl rfl rfl rfl rfl rfl ?_ ?_
    ·
     refine (e6 el32 rfl rfl n rfl aA aA (List.replicate n (.slice none 0 0)) (rep_flatL n _) fun F=>⟨aC,?_⟩);refine f_O 8 rfl (e6 eO rfl rfl M rfl aA aA (a8 (szs M [])) (by rw [szs_nil];simp [a8,List.flatten_replicate_singleton]) fun J=>⟨aC,?_⟩);refine f_T 9 rfl (dU (cs:=[.slice O L.length X,.slice (some ⟨F,0,none⟩) n n,.slice (some ⟨J,0,none⟩) M M]) st234 rfl rfl)<|f_O 10 rfl (cZ rfl rfl fun b17=>⟨aC,?_⟩)
     refine f_O 11 rfl ((bI rfl).does ⟨aC,?_⟩);refine cO aU<|cV (ab _ _ (b17,F,J,O,X,Z) o8 ?_ ?_ ?_)
     · exact aF
     · exact aF
     · exact aC
    ·
     refine (e6 eO rfl rfl M rfl aA aA (a8 (szs M [])) (by rw [szs_nil];simp [a8,List.flatten_replicate_singleton]) fun J=>⟨aC,?_⟩);refine f_O 4 rfl (e6 el32 rfl rfl n rfl aA aA (List.replicate n (.slice none 0 0)) (rep_flatL n _) fun F=>⟨aC,?_⟩);refine f_T 9 rfl (dU (cs:=[.slice O L.length X,.slice (some ⟨F,0,none⟩) n n,.slice (some ⟨J,0,none⟩) M M]) st234 rfl rfl)<|f_O 10 rfl (cZ rfl rfl fun b17=>⟨aC,?_⟩)
     refine f_O 11 rfl ((bI rfl).does ⟨aC,?_⟩);refine cO aU<|cV (ab _ _ (b17,F,J,O,X,Z) o8 ?_ ?_ ?_)
     · exact aF
     · exact aF
     · exact aC
  ·
   refine (e6 el32 rfl rfl n rfl aA aA (List.replicate n (.slice none 0 0)) (rep_flatL n _) fun F=>⟨aC,?_⟩);refine f_O 1 rfl (aW Tryz.call56 rfl (fun w_ U=>CloneI_spec _ L.length (a8 L) cb w_ (hL.up0 U) (fun e=>by cases e) (by rw [a7];omega) (ints_oneC _) aA) ?_);rintro v8 _ ⟨Z,rfl,o8⟩;obtain ⟨O,X,rfl,_⟩:=o8.val
   dsimp only [aK,aJ];refine ⟨aC,?_⟩;refine f_O 6 rfl (aW Tryz.call87 rfl (fun w_ U=>nZ _ L cb w_ (hL.up0 U) h0 aA) ?_);rintro _ _ ⟨rfl,rfl⟩;dsimp only [aK,aJ];refine ⟨aC,?_⟩;refine f_T 7 rfl (kY rfl rfl _ (show IntKind.i64.wrap (fC L+1)=(M:Int) from by rw [d8 aA];omega)) ?_;refine f_O 8 rfl (e6 eO rfl rfl M rfl aA aA (a8 (szs M [])) (by rw [szs_nil];simp [a8,List.flatten_replicate_singleton]) fun J=>⟨aC,?_⟩);refine f_T 9 rfl (dU (cs:=[.slice O L.length X,.slice (some ⟨F,0,none⟩) n n,.slice (some ⟨J,0,none⟩) M M]) st234 rfl rfl)<|f_O 10 rfl (cZ rfl rfl fun b17=>⟨aC,?_⟩)
   refine f_O 11 rfl ((bI rfl).does ⟨aC,?_⟩);refine cO aU<|cV (ab _ _ (b17,F,J,O,X,Z) o8 ?_ ?_ ?_)
   · exact aF
   · exact aF
   · exact aC
 ·
  rintro ⟨b17,F,J,O,X,Z⟩ o8;refine aV fun kh3=>aG fun aj=>cN eV rfl<|c7 Tryz.isAgg3 rfl (rdA rfl)<|aB 1 rfl<|aD aj<|aS ?_
  refine dF (α:=Nat×List Value×List Seg) [1,2,5,19] (fun ⟨k,vs,ms⟩=>[(20,.int .i64 (k:Int))]) (fun ⟨k,vs,ms⟩=>[[(b17,blk [.slice O L.length X,.slice (some ⟨F,0,none⟩) n n,.slice (some ⟨J,0,none⟩) M M] 234)],Z,[(F,blk vs 25)],ms.flatten,[(J,blk (a8 (szs M (L.take k))) 3)],[(b2,blk [.int .i64 (n:Int),.slice A l.length cap] 24)]]) (fun ⟨k,vs,ms⟩=>k≤n∧RowsC 3 n (fun i=>if i<k then dS (i:Int) l else []) vs ms∧∀ i,k≤i→i<n→ms[i]? =some []) (fun ⟨k,vs,ms⟩=>n - k) (0,List.replicate n (.slice none 0 0),List.replicate n []) ?_ ?_ ?_ ?_
  · exact aF
  · dsimp only
    rw [show (List.replicate n ([]:Seg)).flatten=[] from by simp];exact aC
  · exact ⟨aA,RowsC.start _ n _,fun i _ hi=>by simp [hi]⟩
  ·
   rintro ⟨k,vs,ms⟩ ⟨ay,ag,ac⟩;refine fJ (e:=[(20,_),(1,_),(2,_),(5,_),(19,_)]) aF ?_;refine aG fun kh5=>aB 1 rfl<|aD kh5<|aV fun kh6=>aX rfl (fun ap=>?_) (fun ap=>?_)
   ·
    have hk:k<n:=aA
    have aa:k<L.length:=aA
    have hz:j2 (n:Int) l (k:Int)=0:=by unfold j2;rw [if_neg (by rw [hg];simp),if_neg aA]
    obtain ⟨y,hy⟩:∃ y:Nat,L[k]=(y:Int):=⟨L[k].toNat,by have:=ah _ (List.getElem_mem aa);omega⟩
    have ad:y<M:=by have:=iL (List.getElem_mem aa);omega
    have an:=cnt_le (L.take k) y
    rw [List.length_take] at an;refine bZ kh6<|aV fun kh7=>aS<|aG fun kh8=>aB 2 rfl<|aD kh8<|aV fun kh9=>cQ [[(b17,blk [.slice O L.length X,.slice (some ⟨F,0,none⟩) n n,.slice (some ⟨J,0,none⟩) M M] 234)],[(b2,blk [.int .i64 (n:Int),.slice A l.length cap] 24)]] rfl<|f_T 0 rfl (aR rfl)<|f_T 1 rfl (dD rfl) ?_
    refine f_T 2 rfl (aT fa234_1 rfl)<|f_T 3 rfl (aH Tryz.isAgg32 rfl (rdA rfl))<|f_T 4 rfl (aR rfl)<|f_T 5 rfl (aQ (vs:=[.int .i64 (n:Int),.slice A l.length cap]) Tryz.isAgg24 Tryz.sizeOf24 rfl rfl ⟨(rdA rfl),(rdA rfl),trivial⟩)<|f_T 6 rfl (aR rfl) ?_
    refine f_O 7 rfl (aW Tryz.call189 rfl (fun w_ U=>Neighbours_spec (n:Int) A l cap (k:Int) w_ (hr.up0 U) aA hN hok) ?_);rintro _ _ ⟨Ar,W,cr,ae,rfl,rfl,ai,hW⟩;rw [if_pos hz] at hW;subst hW;dsimp only [aK,aJ];refine ⟨aC,?_⟩;refine f_T 8 rfl (aR rfl)<|f_T 9 rfl (eU rfl rfl)<|f_T 10 rfl (eU rfl rfl)<|f_T 11 rfl (aM g5 rfl rfl (k))<|fX 12 rfl (bQ Tryz.sizeOf25 rfl rfl rfl rfl (by rw [ag.lv];omega) (vs.set k (.slice Ar (dS (k:Int) l).length (dS (k:Int) l).length)) rfl ⟨aC,?_⟩)
    refine cO aU<|bP kh9<|cQ [[(b17,blk [.slice O L.length X,.slice (some ⟨F,0,none⟩) n n,.slice (some ⟨J,0,none⟩) M M] 234)]] rfl<|f_T 0 rfl (aR rfl)<|f_T 1 rfl (dD rfl)<|f_T 2 rfl (aT fa234_2 rfl)<|f_T 3 rfl (aH Tryz.isAgg25 rfl (rdA rfl))<|f_T 4 rfl (aR rfl)<|f_T 5 rfl (aR rfl)<|f_T 6 rfl (aM bU rfl rfl (ob+k)) ?_
    refine f_T 7 rfl (aH Tryz.isAgg3 rfl (show Rd _ _ _ _ _ (.int .i64 (y:Int)) by rw [← hy];exact eC (enc:=(.int .i64 ·)) al ak aa)) ?_;refine f_T 8 rfl (aM bU rfl rfl (y))<|f_O 9 rfl ((aH Tryz.isAgg3 rfl (rdA (v:= .int .i64 (cnt (L.take k) y:Int)) (by rw [d9 (by rw [gO];exact ad),kU ad]))).does ⟨aC,?_⟩)
    refine f_T 10 rfl (bF rfl rfl)<|f_T 11 rfl (aM bU rfl rfl (y))<|fX 12 rfl (bQ Tryz.sizeOf3 rfl rfl rfl rfl (by rw [a7,gO];omega) (a8 (szs M (L.take (k+1)))) (by rw [szs_next aa hy ad];simp [a8]) ⟨aC,?_⟩)
    refine cO aU<|dI<|bP kh7<|aI<|f_Q (bF rfl rfl)<|aB 1 rfl<|aY<|gN (Sub.joinF (m:=ae) (G' :=ms.flatten) (flat_put (ac k (Nat.le_refl _) hk) ae)) ?_
    refine cV (a6 (k+1,vs.set k (.slice Ar (dS (k:Int) l).length (dS (k:Int) l).length),ms.set k ae) (by first|omega|(dsimp only;omega)|(simp;omega)) ⟨aA,ag.next (r:=fun i=>dS (i:Int) l) hk ai,fun i h1 h2=>by rw [List.getElem?_set_ne aA];exact ac i aA h2⟩ ?_ ?_ ?_)
    · exact aF
    · exact aF
    · exact aC
   ·
    refine cS<|cU<|cU<|eH<|bP kh3<|aG fun kh10=>aB 2 rfl<|aD kh10<|aZ ?_
    obtain rfl:k=n:=aA
    dsimp only;rw [List.take_of_length_le aA];exact bO [(pR b17 O X L Z F k vs ms.flatten J (szs M L)).flatten] Tryz.results171 rfl (Sub.flat (by unfold pR;rw [gO];repeat (first|exact aP|refine aL ?_))) ⟨b17,_,rfl,rfl,by rw [d3,show (fC L+1).toNat=M by omega];exact ⟨O,X,Z,F,vs,ms,J,List.Perm.refl _,o8,ag.all⟩⟩
end Go.Proofs.YthpkelafioikaaaGreat
