import Derived.Test.YthpkelafioikaaaGreatFlyRun
import Derived.Test.YthpkelafioikaaaGreatAll5
import Derived.Test.YthpkelafioikaaaGreatAll3
import Derived.Test.YthpkelafioikaaaGreatAll4
namespace Go.Proofs.YthpkelafioikaaaGreat
open Go Go.RowKit Fly
set_option maxRecDepth 100000
set_option maxHeartbeats 4000000
set_option linter.all false
def lkCs (a:Arc):List Value:=[.int .i64 a.dst,.int .u64 a.wt]
theorem lkCs_len (a:Arc):(lkCs a).length=2:=rfl
def g4 (E:List Arc) (v:Nat):List Arc:=E.filter fun a=>decide (a.src.toNat=v)
theorem outsOf_add (E:List Arc) (a:Arc) (v:Nat):g4 (E++[a]) v=if a.src.toNat=v then g4 E v++[a] else g4 E v:=by
 unfold g4;rw [List.filter_append]
 by_cases h:a.src.toNat=v
 ·simp [h]
 ·simp [h]
theorem outs_rows (E:List Arc) (v:Nat):∀ k,k≤E.length→g4 (E.take k) v=(fB (E.take k) v).map fun i=>E[i.toNat]?.getD ⟨0,0,0⟩
 |0,_=>by simp [g4,fB,gF]
 |k+1,h=>by
  have ih:=outs_rows E v k aA
  have e : E.take (k + 1) = E.take k ++ [E[k]'aA] := List.take_succ_eq_append_getElem aA
  by_cases hv : (E[k]'aA).src.toNat = v
  ·have h1:fB (E.take (k+1)) v=fB (E.take k) v++[(k:Int)]:=by unfold fB;exact nQ aA (by simp [hv])
   rw [h1,List.map_append,← ih,e,outsOf_add,if_pos hv];simp [show k<E.length by omega]
  ·have h1:fB (E.take (k+1)) v=fB (E.take k) v:=by unfold fB;exact lP aA (by simp [hv])
   rw [h1,← ih,e,outsOf_add,if_neg hv]
theorem outs_row (E:List Arc) (v:Nat):g4 E v=(fB E v).map fun i=>E[i.toNat]?.getD ⟨0,0,0⟩:=by
 have:=outs_rows E v E.length (Nat.le_refl _)
 rwa [List.take_length] at this
theorem outs_len (E:List Arc) (v:Nat):(g4 E v).length=(fB E v).length:=by rw [outs_row];simp
theorem outs_at {E:List Arc} {v j:Nat} (hj:j<(g4 E v).length):∃ (i:Nat) (hi:i<E.length) (hr:j<(fB E v).length),(fB E v)[j]=(i:Int)∧E[i].src.toNat=v∧(g4 E v)[j]=E[i]:=by
 have hr:j<(fB E v).length:=by rw [← outs_len];exact hj
 obtain ⟨i,hi,e1,e2⟩:=rowOf_at hr
 refine ⟨i,hi,hr,e1,e2,?_⟩;have h:=outs_row E v
 have h2:(g4 E v)[j]? =((fB E v).map fun i=>E[i.toNat]?.getD ⟨0,0,0⟩)[j]? :=by rw [h]
 rw [List.getElem?_eq_getElem hj,List.getElem?_map,List.getElem?_eq_getElem hr,e1,Option.map_some,Int.toNat_natCast,List.getElem?_eq_getElem hi,Option.getD_some] at h2;exact Option.some.inj h2
theorem outs_le (E:List Arc) (v:Nat):(g4 E v).length≤E.length:=List.length_filter_le _ _
def LkOk (n:Nat) (E:List Arc):Prop:=∀ a∈E,(0≤a.src∧a.src<(n:Int))∧(0≤a.dst∧a.dst<(n:Int))∧0≤a.wt∧a.wt≤INF
theorem LkOk.add {n:Nat} {E:List Arc} (h:LkOk n E) {a:Arc} (ha:(0≤a.src∧a.src<(n:Int))∧(0≤a.dst∧a.dst<(n:Int))∧0≤a.wt∧a.wt≤INF):LkOk n (E++[a]):=fun x hx=>by
 rcases List.mem_append.1 hx with hx|hx
 ·exact h x hx
 ·rw [List.mem_singleton.1 hx];exact ha
theorem LkOk.wt {n:Nat} {E:List Arc} (h:LkOk n E):∀ x∈E,0≤x.wt:=fun x hx=>(h x hx).2.2.1
theorem LkOk.dst {n:Nat} {E:List Arc} (h:LkOk n E):∀ i (hi:i<E.length),E[i].dst.toNat<n:=fun i hi=>by have:=(h _ (List.getElem_mem hi)).2.1;omega
theorem LkOk.src {n:Nat} {E:List Arc} (h:LkOk n E):∀ i (hi:i<E.length),E[i].src.toNat<n:=fun i hi=>by have:=(h _ (List.getElem_mem hi)).1;omega
structure LinkR (T:TypeId) (n:Nat) (E:List Arc) (ents:List (Int×Value×Nat)) (vs:List Value) (ms:List Seg):Prop where
 lv:vs.length=n
 lm:ms.length=n
 own : ∀ (v : Nat) (h : v < n), Own T 2 (vs[v]'(lv.symm ▸ h)) (g4 E v).length ((g4 E v).flatMap lkCs) (ms[v]'(lm.symm ▸ h))
 get : ∀ (v : Nat) (h : v < n), (eR ents (v : Int)).getD (.slice none 0 0) = vs[v]'(lv.symm ▸ h)
theorem LinkR.start (T:TypeId) (n:Nat):LinkR T n [] [] (List.replicate n (.slice none 0 0)) (List.replicate n []):=
 ⟨aN,aN,fun v h=>by simp only [List.getElem_replicate];exact Own.nil T 2,fun v h=>by simp [eR]⟩
theorem LinkR.split {T:TypeId} {n:Nat} {E:List Arc} {ents:List (Int×Value×Nat)} {vs:List Value} {ms:List Seg} (h:LinkR T n E ents vs ms) {v:Nat} (hv:v<n):
  ∃ val m G,(eR ents (v:Int)).getD (.slice none 0 0)=val∧Own T 2 val (g4 E v).length ((g4 E v).flatMap lkCs) m∧ms.flatten.Perm (m++G)∧
   ∀ (a:Arc) F m' k,a.src.toNat=v→Own T 2 F ((g4 E v).length+1) ((g4 E v).flatMap lkCs++lkCs a) m'→LinkR T n (E++[a]) (fS ents (v:Int) F k) (vs.set v F) (ms.set v m')∧(m' ++G).Perm (ms.set v m').flatten:=by
 have hm:v<ms.length:=by rw [h.lm];exact hv
 refine ⟨_,_,_,h.get v hv,h.own v hv,gN ms v hm,fun a F m' k ha ho=>⟨⟨by simp [h.lv],by simp [h.lm],fun u J=>?_,fun u J=>?_⟩,?_⟩⟩
 ·simp only [List.getElem_set]
  rw [outsOf_add]
  by_cases e:v=u
  ·subst e
   rw [if_pos rfl,if_pos rfl,if_pos ha,List.length_append,List.flatMap_append]
   simpa using ho
  ·rw [if_neg e,if_neg e,if_neg (fun e2=>e (ha.symm.trans e2))]
   exact h.own u J
 ·rw [jA,List.getElem_set]
  by_cases e:v=u
  ·subst e;rw [if_pos rfl,if_pos rfl];rfl
  ·rw [if_neg (fun e2=>e aA),if_neg e];exact h.get u J
 ·have:=gN (ms.set v m') v (by simpa using hm)
  rw [List.getElem_set_self,List.eraseIdx_set_eq] at this;exact this.symm
abbrev iM (x:Int):Value:= .int .i64 x
theorem NX.skipQ {n:Nat} {e:List Arc} {p:Nat→Bool} {s:Nat} {d0 d by_:List Int} {T:List (Option Int)} {o:List Nat} {v j:Nat} {a:Int} (h:NX n e p s d0 v a o j d by_ T) (hj:j<(fB e v).length) {i u:Nat} (hi:i<e.length) (hr:(fB e v)[j]=(i:Int)) (F:e[i].src.toNat=v) (J:e[i].dst.toNat=u) (hn:¬ gS a e[i].wt<dg d u):NX n e p s d0 v a o (j+1) d by_ T:=
 h.skip hj hi hr F fun _=>by rw [J];have:=dadd_le a e[i].wt;omega
def offA (m:Nat) (i:Int):Bool:=decide (i<0)||decide ((m:Int)≤i)
def snE (N:Int) (l:List Arc) (bs:List Int) (L:List (List Int)) (arcs:List Int):Int:=
 if (nsE N l bs L).2≠0 then (nsE N l bs L).2 else if 16384<arcs.length then 2 else if arcs.any (offA l.length) then 5 else 0
def stOf (row:List Int) (l:List Arc) (i:Int):List Int:=(l[i.toNat]?).elim [] fun a=>if row.getD a.src.toNat 0=row.getD a.dst.toNat 0 then [row.getD a.src.toNat 0] else []
def stR (row:List Int) (l:List Arc) (arcs:List Int):List Int:=arcs.flatMap (stOf row l)
def o4 (row:List Int) (l:List Arc) (arcs:List Int):List Int:=cpt (gT (stR row l arcs))
def stL (L:List (List Int)) (l:List Arc) (arcs:List Int):List (List Int):=L.map fun row=>o4 row l arcs
def stM (L:List (List Int)) (l:List Arc) (arcs:List Int) (k j:Nat):List (List Int):=L.mapIdx fun i row=>if i<k then o4 row l arcs else if i=k then stR row l (arcs.take j) else []
theorem stM_len (L:List (List Int)) (l:List Arc) (arcs:List Int) (k j:Nat):(stM L l arcs k j).length=L.length:=by simp [stM]
theorem stM_zero (L:List (List Int)) (l:List Arc) (arcs:List Int):stM L l arcs 0 0=List.replicate L.length []:=by
 refine List.ext_getElem (by simp [stM]) fun i h1 h2=>?_;simp [stM,stR]
theorem stM_at {L:List (List Int)} {l:List Arc} {arcs:List Int} {k j:Nat} (h:k<(stM L l arcs k j).length):(stM L l arcs k j)[k]=stR (L.getD k []) l (arcs.take j):=by
 have h' :k<L.length:=by simpa [stM] using h
 simp [stM,List.getD_eq_getElem?_getD,h']
theorem stM_next {L:List (List Int)} {l:List Arc} {arcs:List Int} {k j:Nat} {X:List Int} (F:X=stR (L.getD k []) l (arcs.take (j+1))):(stM L l arcs k j).set k X=stM L l arcs k (j+1):=by
 refine List.ext_getElem (by simp [stM]) fun i h1 h2=>?_;have h' :i<L.length:=by simpa [stM] using h2
 rw [List.getElem_set]
 by_cases e:k=i
 ·subst e
  rw [if_pos rfl,F];simp [stM,List.getD_eq_getElem?_getD,h']
 ·rw [if_neg e]
  simp only [stM,List.getElem_mapIdx]
  by_cases e2:i<k
  ·rw [if_pos e2,if_pos e2]
  ·rw [if_neg e2,if_neg e2,if_neg aA,if_neg aA]
theorem stM_same {L:List (List Int)} {l:List Arc} {arcs:List Int} {k j:Nat} (h:stR (L.getD k []) l (arcs.take (j+1))=stR (L.getD k []) l (arcs.take j)):stM L l arcs k j=stM L l arcs k (j+1):=by
 refine List.ext_getElem (by simp [stM]) fun i h1 h2=>?_;have h' :i<L.length:=by simpa [stM] using h2
 simp only [stM,List.getElem_mapIdx]
 by_cases e2:i<k
 ·rw [if_pos e2,if_pos e2]
 ·rw [if_neg e2,if_neg e2]
  by_cases e:i=k
  ·subst e
   rw [if_pos rfl,if_pos rfl];have F:L.getD i []=L[i]:=by simp [List.getD_eq_getElem?_getD,h']
   rw [F] at h;exact h.symm
  ·rw [if_neg e,if_neg e]
theorem stM_row {L:List (List Int)} {l:List Arc} {arcs:List Int} {k:Nat} {X:List Int} (J:X=o4 (L.getD k []) l arcs):(stM L l arcs k arcs.length).set k X=stM L l arcs (k+1) 0:=by
 refine List.ext_getElem (by simp [stM]) fun i h1 h2=>?_;have h' :i<L.length:=by simpa [stM] using h2
 rw [List.getElem_set]
 by_cases e:k=i
 ·subst e
  rw [if_pos rfl,J];simp [stM,List.getD_eq_getElem?_getD,h']
 ·rw [if_neg e]
  simp only [stM,List.getElem_mapIdx]
  by_cases e2:i<k
  ·rw [if_pos e2,if_pos aA]
  ·rw [if_neg e2,if_neg aA,if_neg aA]
   by_cases F:i=k+1
   ·rw [if_pos F];simp [stR]
   ·rw [if_neg F]
theorem stM_all {L:List (List Int)} {l:List Arc} {arcs:List Int} {k j:Nat} (h:L.length≤k):stM L l arcs k j=stL L l arcs:=by
 refine List.ext_getElem (by simp [stM,stL]) fun i h1 h2=>?_;have h' :i<L.length:=by simpa [stL] using h2
 simp only [stM,stL,List.getElem_mapIdx,List.getElem_map];rw [if_pos aA]
theorem stR_next {row:List Int} {l:List Arc} {arcs:List Int} {j:Nat} (hj:j<arcs.length):stR row l (arcs.take (j+1))=stR row l (arcs.take j)++stOf row l arcs[j]:=by
 unfold stR;rw [List.take_succ_eq_append_getElem hj,List.flatMap_append];simp
theorem stOf_len (row:List Int) (l:List Arc) (i:Int):(stOf row l i).length≤1:=by
 unfold stOf
 cases l[i.toNat]? with
 |none=>simp
 |some a=>simp only [Option.elim];split<;>simp
theorem stR_len (row:List Int) (l:List Arc):∀ arcs:List Int,(stR row l arcs).length≤arcs.length
 |[]=>by simp [stR]
 |i::arcs=>by
  have h1:=stR_len row l arcs
  have h2:=stOf_len row l i
  unfold stR at*
  rw [List.flatMap_cons,List.length_append,List.length_cons];omega
theorem stOf_at {row:List Int} {l:List Arc} {i:Int} {u:Nat} (hi:i=(u:Int)) (F:u<l.length):stOf row l i=if row.getD l[u].src.toNat 0=row.getD l[u].dst.toNat 0 then [row.getD l[u].src.toNat 0] else []:=by
 unfold stOf;rw [hi,Int.toNat_natCast,List.getElem?_eq_getElem F];rfl
theorem nP {E:TypeId} {v:Value} {l:List Int} {x:Int} {m:Seg}:Own E 1 v (l.length+1) (bF l++[.int .i64 x]) m=Own E 1 v (l++[x]).length (bF (l++[x])) m:=by rw [eJ,List.length_append];rfl
theorem rep_flatC (n:Nat) (v:Value):List.replicate n v=(List.replicate n [v]).flatten:=by
 induction n with
 |zero=>rfl
 |succ n ih=>rw [List.replicate_succ,List.replicate_succ,List.flatten_cons,← ih];rfl
theorem Stale1_spec (N:Int) (A:Option Addr) (len cap b:Nat) (i:Int) (w:World) (h2:Ro (Fr w []) w (some ⟨b,0,none⟩) [.int .i64 N,.slice A len cap]):
    Meets Tryz.prog 76 ([.int .i64 i]++[.pointer (some ⟨b,0,none⟩)]) w [] (fun u m=>u= .bool (offA len i)∧m=[]):=by
 obtain ⟨J,U,X,O,F⟩:=h2 aN
 obtain ⟨rfl,rfl⟩:b=J∧0=U:=by cases X;exact ⟨rfl,rfl⟩
 refine bE Tryz.func76 rfl Tryz.ntmps76 rfl Owns.nil<|aG fun kh1=>aB 1 rfl<|aD kh1<|aG fun kh2=>aB 3 rfl<|d8 6 rfl (fun g6=>?_) (fun g6=>?_)
 ·refine aB 7 rfl<|aD kh2<|aY ?_
  exact bJ [] Tryz.results76 rfl aP ⟨by unfold offA;rw [decide_eq_true g6];rfl,rfl⟩
 ·refine aB 1 rfl<|eA rfl rfl (aT fT rfl)<|eA rfl rfl (aH Tryz.isAgg22 rfl (rdS O (F 1 _ rfl)))<|eA rfl rfl (iH jB rfl)<|aB 3 rfl<|aD kh2<|aY ?_
  exact bJ [] Tryz.results76 rfl aP ⟨by unfold offA;rw [decide_eq_false g6];rfl,rfl⟩
theorem CStale_spec (N:Int) (A:Option Addr) (l:List Arc) (cap:Nat) (Ab:Option Addr) (bs:List Int) (cb:Nat) (Ac:Option Addr) (R:List Row) (cc:Nat) (D:Option Addr) (arcs:List Int) (cd:Nat) (w:World) (hr:Ro (Fr w []) w A (l.flatMap bZ)) (hl:l.length≤9223372036854775807) (hN:I64 N) (hok:∀ x∈l,eK x) (hn:NestRo (Fr w []) w Ab bs Ac R) (hD:Ro (Fr w []) w D (bF arcs)) (hm:arcs.length≤9223372036854775807):
    Meets Tryz.prog 43 [.agg #[.int .i64 N,.slice A l.length cap],.agg #[.slice Ab bs.length cb,.slice Ac R.length cc],.slice D arcs.length cd] w [] (fun u own' =>∃ (R' :List Row) (A' :Option Addr) (c' :Nat) (mc:Seg) (ms:List Seg),u= .tuple #[.slice A' R'.length c',.int .i64 (snE N l bs (bG R) arcs)]∧own' =[mc,ms.flatten]∧Own 25 1 (.slice A' R'.length c') R'.length (R'.map fG) mc∧RowsCt 3 R' ms∧(snE N l bs (bG R) arcs≠0→R' =[])∧(snE N l bs (bG R) arcs=0→bG R' =stL (bG R) l arcs)):=by
 refine bE Tryz.func43 rfl Tryz.ntmps43 rfl Owns.nil<|aG fun kh1=>f_S (cT rfl rfl fun b3=>?_)
 refine f_S (cT rfl rfl fun b4=>?_);refine aB 2 rfl<|aD kh1<|aS fun kh2=>aG fun kh3=>f_Q (aO (vs:=[_,_]) Tryz.isAgg24 Tryz.sizeOf24 rfl rfl ⟨(rdA rfl),(rdA rfl),trivial⟩)<|f_Q (aO (vs:=[_,_]) Tryz.isAgg34 Tryz.sizeOf34 rfl rfl ⟨(rdA rfl),(rdA rfl),trivial⟩) ?_
 refine f_S (aV Tryz.call38 rfl (fun w_ hp_=>mG N A l cap Ab bs cb Ac R cc w_ (hr.up0 hp_) hl hN hok (hn.up0 hp_)) ?_);rintro _ _ ⟨rfl,rfl⟩;dsimp only [aK,aJ];refine aB 5 rfl<|aD kh3<|aG fun kh4=>aB 2 rfl<|aD kh4<|aX rfl (fun c23=>?_) (fun c23=>?_)
 ·
  refine aG fun bh=>aB 3 rfl<|aD bh<|aY<|cV ?_
  have e:snE N l bs (bG R) arcs=(nsE N l bs (bG R)).2:=by unfold snE;rw [if_pos (by simpa using c23)]
  exact cZ [[],[]] Tryz.results43 rfl rfl (Sub.transF Sub.empty Sub.addNil) ⟨[],none,0,[],[],by rw [e];rfl,rfl,Own.nil _ _,RowsCt.nil _,fun _=>rfl,fun h=>absurd (e.symm.trans h) (by simpa using c23)⟩
 ·
  have hz:(nsE N l bs (bG R)).2=0:=by simpa using c23
  obtain ⟨n,rfl,al⟩:=nsE_zero hz
  obtain ⟨bR,bW,hlen,bf⟩:=bS al.g
  have bi:=al.len
  rw [d5] at bi;have bD:=al.many
  refine bV kh2<|aS fun kh6=>aG fun kh7=>aB 1 rfl<|dU bX rfl<|aB 1 rfl<|aD kh7<|aX rfl (fun c27=>?_) (fun c27=>?_)
  ·
   refine aG fun bg=>aB 2 rfl<|aD bg<|aY<|cV ?_
   have e:snE (n:Int) l bs (bG R) arcs=2:=by unfold snE;rw [if_neg (by rw [hz];simp),if_pos aA]
   exact cZ [[],[]] Tryz.results43 rfl rfl (Sub.transF Sub.empty Sub.addNil) ⟨[],none,0,[],[],by rw [e];rfl,rfl,Own.nil _ _,RowsCt.nil _,fun _=>rfl,fun h=>absurd (e.symm.trans h) (by decide)⟩
  ·
   refine bV kh6<|aS fun kh9=>aG fun ba=>aB 1 rfl<|f_Q (kT rfl rfl) ?_
   refine f_S (aV Tryz.call75 rfl (fun w_ hp_=>ContG_spec D arcs cd (offA l.length) 76 [.pointer (some ⟨b3,0,none⟩)] w_ (hD.up0 hp_) hm Tryz.call76 (fun w' hs i hi=>Stale1_spec (n:Int) A l.length cap b3 i w' (oQ hp_ hs))) ?_);rintro _ _ ⟨rfl,rfl⟩;dsimp only [aK,aJ];refine aD ba<|eO rfl (fun c30=>?_) (fun c30=>?_)
   ·
    refine aG fun bc=>aB 2 rfl<|aD bc<|aY<|cV ?_
    have e:snE (n:Int) l bs (bG R) arcs=5:=by unfold snE;rw [if_neg (by rw [hz];simp),if_neg aA,if_pos c30]
    exact cZ [[],[]] Tryz.results43 rfl rfl (Sub.transF Sub.empty Sub.addNil) ⟨[],none,0,[],[],by rw [e];rfl,rfl,Own.nil _ _,RowsCt.nil _,fun _=>rfl,fun h=>absurd (e.symm.trans h) (by decide)⟩
   ·
    have aw:arcs.any (offA l.length)=false:=by simpa using c30
    have av:snE (n:Int) l bs (bG R) arcs=0:=by unfold snE;rw [if_neg (by rw [hz];simp),if_neg aA,if_neg (by rw [aw];simp)]
    refine bV kh9<|aG fun kh12=>cL jD rfl<|cX Tryz.isAgg32 rfl (rdA rfl)<|dU gL rfl<|f_S (eZ el32 rfl rfl R.length rfl aA aA (List.replicate R.length (.slice none 0 0)) (rep_flatC R.length _).symm fun b34=>?_)
    refine aB 1 rfl<|aD kh12<|aS fun kh13=>aG fun ay=>cL jD rfl<|f_Q (aH Tryz.isAgg32 rfl (v:= .slice Ac R.length cc) (rdA rfl))<|dU gL rfl<|aB 1 rfl<|aD ay<|aR ?_
    refine dA (α:=Nat×List Value×List Seg) [2,3,10,36,37] (fun ⟨k,vs,ms⟩=>[(38,.int .i64 (k:Int))]) (fun ⟨k,vs,ms⟩=>[[(b34,blk (nS vs k) 25)],ms.flatten,[(b3,blk [.int .i64 (n:Int),.slice A l.length cap] 24)],[(b4,blk [.slice Ab bs.length cb,.slice Ac R.length cc] 34)]]) (fun ⟨k,vs,ms⟩=>k≤R.length∧RowsI 3 (stM (bG R) l arcs k 0) vs ms) (fun ⟨k,vs,ms⟩=>R.length - k) (0,List.replicate R.length (.slice none 0 0),List.replicate R.length []) ?_ ?_ ?_ ?_
    · exact aF
    · dsimp only
      rw [ctoR_zero,show (List.replicate R.length ([]:Seg)).flatten=[] from by simp];exact aC
    · exact ⟨aA,by rw [stM_zero,d5];exact RowsI.start _ _⟩
    ·
     rintro ⟨k,vs,ms⟩ ⟨au,hR⟩;refine aG fun kh15=>aB 1 rfl<|aD kh15<|aS fun kh16=>aX rfl (fun bw=>?_) (fun bw=>?_)
     ·
      have F:k<R.length:=aA
      obtain ⟨b0,o0,rfl,bj,bC⟩:=hn.c (fX F)
      have ar:=hn.rows _ (List.getElem_mem F)
      have ak:=iF F
      have au:=al.rowlen (k:=k) aA
      rw [ak] at au;obtain ⟨br, or, bp, ao, ad⟩ := ar.1 (fun e => by have := a7 (R[k]'F).2.1; rw [e] at this; simp at this; omega)
      refine bV kh16 <| aS fun kh17 => aR <| aG fun kh18 => aB 1 rfl <| f_Q (aL gL rfl rfl (o0 + k)) <| f_Q (aH Tryz.isAgg25 rfl (v := .slice (some ⟨br, or, none⟩) (R[k]'F).2.1.length (R[k]'F).2.2) (show Rd _ _ _ _ _ (Value.slice (some ⟨br, or, none⟩) (R[k]'F).2.1.length (R[k]'F).2.2) by rw [← bp]; exact d3 (enc := fG) bj bC F)) ?_
      refine aB 2 rfl<|aD kh18<|aS fun kh19=>aG fun a1=>aB 1 rfl<|dU bX rfl<|aB 1 rfl<|aD a1<|aR ?_
      refine dA (α:=Nat×List Value×List Seg) [2,3,10,11,12,36,37,38,43,44] (fun ⟨j,vs,ms⟩=>[(45,.int .i64 (j:Int))]) (fun ⟨j,vs,ms⟩=>[[(b34,blk (nS vs k) 25)],ms.flatten,[(b3,blk [.int .i64 (n:Int),.slice A l.length cap] 24)],[(b4,blk [.slice Ab bs.length cb,.slice (some ⟨b0,o0,none⟩) R.length cc] 34)]]) (fun ⟨j,vs,ms⟩=>j≤arcs.length∧RowsI 3 (stM (bG R) l arcs k j) vs ms) (fun ⟨j,vs,ms⟩=>arcs.length - j) (0,vs,ms) ?_ ?_ ?_ ?_
      · exact aF
      · exact aC
      · exact ⟨aA,hR⟩
      ·
       rintro ⟨j,vs,ms⟩ ⟨bM,hR⟩;refine fF (e:=[(45,_),(2,_),(3,_),(10,_),(11,_),(12,_),(36,_),(37,_),(38,_),(43,_),(44,_)]) aF ?_;refine aG fun kh21=>aB 1 rfl<|aD kh21<|aS fun kh22=>aX rfl (fun bB=>?_) (fun bB=>?_)
       ·
        have hj:j<arcs.length:=aA
        have ab:offA l.length arcs[j]=false:=by have:=List.any_eq_false.1 aw _ (List.getElem_mem hj);simpa using this
        obtain ⟨u,hu,aj⟩:∃ u:Nat,arcs[j]=(u:Int)∧u<l.length:=⟨arcs[j].toNat,by unfold offA at ab;simp at ab;omega,by unfold offA at ab;simp at ab;omega⟩
        obtain ⟨bd,od,rfl,bq,bt⟩:=hD (fX hj)
        obtain ⟨bl,off,rfl,hS,hc⟩:=hr (eX bZ dD aA aj)
        have bL:=bf u aj
        have aq : l[u].src.toNat < (R[k]'F).2.1.length := aA
        have az : l[u].dst.toNat < (R[k]'F).2.1.length := aA
        have ac := stR_next (row := (R[k]'F).2.1) (l := l) hj
        rw [stOf_at hu aj,eM aq,eM az] at ac;refine bV kh22<|aS fun kh23=>aR<|aG fun kh24=>f_Q (aL bX rfl rfl (od+j))<|f_Q (aH Tryz.isAgg3 rfl (show Rd _ _ _ _ _ (.int .i64 (u:Int)) by rw [← hu];exact d3 (enc:=(.int .i64 ·)) bq bt hj)) ?_
        refine aB 1 rfl<|aD kh24<|aG fun kh25=>cL fT rfl<|cX Tryz.isAgg22 rfl (rdA rfl)<|aB 1 rfl<|f_Q (aL jB rfl rfl (off+u*3))<|f_Q (aO (vs:=bZ l[u]) Tryz.isAgg69 Tryz.sizeOf69 rfl rfl (f8 dD hS hc aj))<|f_S (cQ Tryz.zeroValue69 rfl fun b15=>?_)
        refine f_Z (bP Tryz.sizeOf69 rfl rfl rfl rfl cF (bZ l[u]) rfl ?_);refine aD kh25<|aS fun kh26=>gV rfl aW<|dI 1 rfl<|dB (aT fY rfl)<|gC Tryz.isAgg3 rfl (rdA rfl)<|dB (aL bX rfl rfl (or+l[u].src.toNat))<|dB (aH Tryz.isAgg3 rfl (d3 (enc:=(.int .i64 ·)) ao ad aq))<|dI 1 rfl<|dB (aT fO rfl) ?_
        refine gC Tryz.isAgg3 rfl (rdA rfl)<|dB (aL bX rfl rfl (or+l[u].dst.toNat))<|dB (aH Tryz.isAgg3 rfl (d3 (enc:=(.int .i64 ·)) ao ad az))<|dI 1 rfl<|eI<|bO kh26<|aX rfl (fun c64=>?_) (fun c64=>?_)
        ·
         rw [if_pos c64] at ac;obtain ⟨rv,rm,rG,ai,X,ap,U⟩:=hR.split (i:=k) (by rw [stM_len,d5];exact F)
         rw [stM_at] at X;have O:=stR_len ((bG R).getD k []) l (arcs.take j)
         rw [List.length_take] at O;obtain ⟨Z,Y⟩:∃ Z,Z=stR ((bG R).getD k []) l (arcs.take j):=⟨_,rfl⟩
         rw [← Y] at X O;obtain ⟨Ar,cr,rfl,bu⟩:=X.val
         have ag:=hR.lv
         rw [stM_len,d5] at ag;refine eP (Sub.splitF ap)<|c7 [[(b15,blk (bZ l[u]) 69)]] rfl<|f_T 0 rfl (aU rfl)<|f_T 1 rfl (aU rfl)<|f_T 2 rfl (aU rfl)<|f_T 3 rfl (aU rfl)<|f_T 4 rfl (aL gL rfl rfl (k))<|f_T 6 rfl (aU rfl)<|f_T 7 rfl (aT fY rfl)<|f_T 8 rfl (aH Tryz.isAgg3 rfl (rdA rfl)) ?_;refine f_T 9 rfl (aL bX rfl rfl (or+l[u].src.toNat))<|f_T 10 rfl (aH Tryz.isAgg3 rfl (d3 (enc:=(.int .i64 ·)) ao ad aq))<|gH 5 11 rfl rfl aW rfl rfl rfl rfl rfl rfl ?_ ?_
         ·
          refine (aH Tryz.isAgg25 rfl (rdA (by rw [ctoR_get (Nat.le_refl _)]; exact ai))).does ⟨aC, ?_⟩;refine f_O 11 rfl (bQ eL aA rfl rfl rfl fun bK => ⟨aC, ?_⟩);refine f_O 12 rfl (dE eL rfl rfl X (ys := [.int .i64 (R[k]'F).2.1[l[u].src.toNat]]) ⟨(rdA rfl), trivial⟩ rfl rfl aA aA fun v77 ah aa => ⟨aC, ?_⟩);obtain ⟨ae, J, rfl, _⟩ := aa.val
          refine f_T 13 rfl (aL gL rfl rfl (k))<|fZ 14 rfl (bU Tryz.sizeOf25 rfl rfl rfl rfl (by rw [ctoR_len];omega) (nS (vs.set k (.slice ae (Z.length+1) J)) k) (ctoR_set (Nat.le_refl _) _) ⟨aC,?_⟩)
          refine cU aW<|dF<|bO kh23<|aI<|f_Q (a8 rfl rfl)<|aB 1 rfl<|aZ<|f9 (Sub.joinF (m:=ah) (G' :=rG) (U _ _ _ (by rw [← nP];exact aa)).2) ?_
          refine cS (a6 (j+1,vs.set k (.slice ae (Z.length+1) J),ms.set k ah) (by first|omega|(dsimp only;omega)|(simp;omega)) ⟨aA,by have:=(U _ _ _ (by rw [← nP];exact aa)).1;rw [Y,stM_next (by rw [ak,ac])] at this;rw [Y];exact this⟩ ?_ ?_ ?_)
          · exact aF
          · exact aF
          · exact aC
         ·
          refine (bQ eL aA rfl rfl rfl fun bK => ⟨aC, ?_⟩);refine f_O 5 rfl ((aH Tryz.isAgg25 rfl (rdA (by rw [ctoR_get (Nat.le_refl _)]; exact ai))).does ⟨aC, ?_⟩);refine f_O 12 rfl (dE eL rfl rfl X (ys := [.int .i64 (R[k]'F).2.1[l[u].src.toNat]]) ⟨(rdA rfl), trivial⟩ rfl rfl aA aA fun v77 ah aa => ⟨aC, ?_⟩);obtain ⟨ae, J, rfl, _⟩ := aa.val
          refine f_T 13 rfl (aL gL rfl rfl (k))<|fZ 14 rfl (bU Tryz.sizeOf25 rfl rfl rfl rfl (by rw [ctoR_len];omega) (nS (vs.set k (.slice ae (Z.length+1) J)) k) (ctoR_set (Nat.le_refl _) _) ⟨aC,?_⟩)
          refine cU aW<|dF<|bO kh23<|aI<|f_Q (a8 rfl rfl)<|aB 1 rfl<|aZ<|f9 (Sub.joinF (m:=ah) (G' :=rG) (U _ _ _ (by rw [← nP];exact aa)).2) ?_
          refine cS (a6 (j+1,vs.set k (.slice ae (Z.length+1) J),ms.set k ah) (by first|omega|(dsimp only;omega)|(simp;omega)) ⟨aA,by have:=(U _ _ _ (by rw [← nP];exact aa)).1;rw [Y,stM_next (by rw [ak,ac])] at this;rw [Y];exact this⟩ ?_ ?_ ?_)
          · exact aF
          · exact aF
          · exact aC
        ·
         rw [if_neg c64,List.append_nil] at ac;refine dY<|dF<|bO kh23<|aI<|f_Q (a8 rfl rfl)<|aB 1 rfl<|aZ ?_
         refine cS (a6 (j+1,vs,ms) (by first|omega|(dsimp only;omega)|(simp;omega)) ⟨aA,by rw [← stM_same (by rw [ak];exact ac)];exact hR⟩ ?_ ?_ ?_)
         · exact aF
         · exact aF
         · exact aC
       ·
        obtain rfl:j=arcs.length:=aA
        refine cN<|cO<|cO<|eC<|bO kh19<|aS fun kh27=>?_
        obtain ⟨rv,rm,rG,ai,X,ap,U⟩:=hR.split (i:=k) (by rw [stM_len,d5];exact F)
        rw [stM_at] at X;have O:=stR_len ((bG R).getD k []) l (arcs.take arcs.length)
        rw [List.length_take] at O;obtain ⟨Z,Y⟩:∃ Z,Z=stR ((bG R).getD k []) l (arcs.take arcs.length):=⟨_,rfl⟩
        rw [← Y] at X O;obtain ⟨Ar,cr,rfl,bu⟩:=X.val
        have ag:=hR.lv
        rw [stM_len,d5] at ag;refine eP (Sub.splitF ap)<|aI<|aB 2 rfl<|f_Q (aL gL rfl rfl (k))<|f_Q (aH Tryz.isAgg25 rfl (rdA (by rw [ctoR_get (Nat.le_refl _)];exact ai))) ?_;refine f_S (d4 [rm] _ Tryz.call22 rfl (aM Sub.refl) (fun w_ hp_=>j9 Ar cr Z rm w_ X aA hp_.owns) ?_);rintro _ _ ⟨rfl,m2,rfl,be⟩;dsimp only [aK,aJ];refine aD kh27<|aI<|aB 4 rfl<|f_Q (aL gL rfl rfl (k))<|f_Q (aH Tryz.isAgg25 rfl (rdA (by rw [ctoR_get (Nat.le_refl _)];exact ai))) ?_
        refine f_S (d4 [m2] _ Tryz.call24 rfl (by repeat (first|exact Sub.refl|refine aM ?_)) (fun w_ hp_=>(by have h:=k8 Ar cr (gT Z) m2 w_ (by rw [e6];exact be) (by rw [e6];omega) hp_.owns;rw [e6] at h;exact h)) ?_);rintro bY _ ⟨m3,rfl,am⟩;obtain ⟨A3,c3,rfl,a2⟩:=am.val
        dsimp only [aK,aJ];refine f_S (aV Tryz.call23 rfl (fun w_ hp_=>cut_spec A3 (cpt (gT Z)).length c3 w_ a2.1 a2.2 (j5 am)) ?_);rintro _ _ ⟨rfl,rfl⟩;dsimp only [aK,aJ];refine f_Q (aL gL rfl rfl (k))<|f_Z (bU Tryz.sizeOf25 rfl rfl rfl rfl (by rw [ctoR_len];omega) (nS (vs.set k (.slice A3 (cpt (gT Z)).length c3)) (k+1)) (ctoR_next (.slice A3 (cpt (gT Z)).length c3)) ?_)
        refine aZ<|dF<|bO kh17<|aI<|f_Q (a8 rfl rfl)<|aB 1 rfl<|aZ<|f9 (Sub.joinF (m:=m3) (G' :=rG) (U _ _ _ am).2) ?_
        refine cS (a6 (k+1,vs.set k (.slice A3 (cpt (gT Z)).length c3),ms.set k m3) (by first|omega|(dsimp only;omega)|(simp;omega)) ⟨aA,by have:=(U _ _ _ am).1;rw [Y,List.take_length,show cpt (gT (stR ((bG R).getD k []) l arcs))=o4 ((bG R).getD k []) l arcs from rfl,stM_row rfl] at this;rw [Y,List.take_length];exact this⟩ ?_ ?_ ?_)
        · exact aF
        · exact aF
        · exact aC
     ·
      obtain rfl:k=R.length:=aA
      refine cN<|cO<|cO<|eC<|bO kh13<|aG fun kh28=>aB 3 rfl<|aD kh28<|aY ?_
      have ag:=hR.lv
      rw [stM_len,d5] at ag;obtain ⟨R',bk,ax,bv⟩:=RowsI.cut hR
      have an:R'.length=R.length:=by rw [← d5 R',ax,stM_len,d5]
      dsimp only;rw [ctoR_all aA,bk];exact cZ [[(b34,blk (R'.map fG) 25)],ms.flatten] Tryz.results43 rfl rfl aC ⟨R',some ⟨b34,0,none⟩,R.length,_,ms,by rw [av,an],rfl,by have h:=Own.mk (E:=25) (sz:=1) (b:=b34) (cs:=R'.map fG) (len:=R'.length) aN aA;rw [an] at h ⊢;exact h,bv,fun h=>absurd av h,fun _=>by rw [ax,stM_all (by rw [d5];exact Nat.le_refl _)]⟩
theorem qG (ep:Int) (w:World) (he:0≤ep∧ep≤1073741824):Meets Tryz.prog 126 [.int .i64 ep] w [] (fun u m=>u= .bool true∧m=[]):=by
 refine bE Tryz.func126 rfl Tryz.ntmps126 rfl Owns.nil<|aG fun kh1=>aB 1 rfl<|aD kh1<|aG fun kh2=>aB 3 rfl<|f_trueL 5 rfl aA<|aB 4 rfl<|aD kh2<|aY ?_
 exact bJ [] Tryz.results126 rfl aP ⟨by rw [decide_eq_true he.2],rfl⟩
theorem qCheck_spec (n:Nat) (A:Option Addr) (l:List Arc) (cap:Nat) (Y:Option Addr) (bs:List Int) (cb:Nat) (Z:Option Addr) (R:List Row) (cc:Nat) (m:Mx) (w:World) (hG:GN (Fr w []) w n A l Y bs Z R) (X:clE (n:Int) l bs (bG R) m.lv m.cl=0) (he:0≤m.ep∧m.ep≤1073741824) (hD:m.D.length=(bdL ((bG R).getD (m.lv.toNat - 1) []) m.cl l).length*(bdL ((bG R).getD (m.lv.toNat - 1) []) m.cl l).length):
    Meets Tryz.prog 74 [.agg #[.int .i64 (n:Int),.slice A l.length cap],.agg #[.slice Y bs.length cb,.slice Z R.length cc],.agg (gQ m).toArray] w [] (fun u own=>u= .int .i64 0∧own=[]):=by
 have ae:=hG
 obtain ⟨hr,hok,hn,J⟩:=ae
 obtain ⟨ah,ak,hlen,al⟩:=bS J.g
 have hl:l.length≤9223372036854775807:=aA
 have hN:I64 (n:Int):=by constructor<;>omega
 have ac:=J.len
 rw [d5] at ac;have ab:=J.many
 have O:=pY ((bG R).getD (m.lv.toNat - 1) []) m.cl l
 have ai:=Nat.mul_le_mul O O
 have ag:2*l.length*(2*l.length)≤16384*16384:=Nat.mul_le_mul aA aA
 refine bE Tryz.func74 rfl Tryz.ntmps74 rfl Owns.nil<|aG fun kh1=>f_S (cT rfl rfl fun b3=>?_)
 refine f_S (cT rfl rfl fun b4=>?_);refine f_S (cT (cs:=gQ m) rfl rfl fun b5=>?_);refine aB 1 rfl<|aD kh1<|aS fun kh2=>aG fun kh3=>f_Q (aO (vs:=[_,_]) Tryz.isAgg24 Tryz.sizeOf24 rfl rfl ⟨(rdA rfl),(rdA rfl),trivial⟩)<|f_Q (aO (vs:=[_,_]) Tryz.isAgg34 Tryz.sizeOf34 rfl rfl ⟨(rdA rfl),(rdA rfl),trivial⟩) ?_
 refine f_S (aV Tryz.call38 rfl (fun U F=>mG (n:Int) A l cap Y bs cb Z R cc U (hr.up0 F) hl hN hok (hn.up0 F)) ?_);rintro _ _ ⟨rfl,rfl⟩;rw [J.zero];dsimp only [aK,aJ];refine aB 5 rfl<|aD kh3<|aG fun kh4=>aB 2 rfl<|aD kh4<|dX rfl aN<|bV kh2<|aG fun kh5=>f_Q (aO (vs:=[_,_]) Tryz.isAgg24 Tryz.sizeOf24 rfl rfl ⟨(rdA rfl),(rdA rfl),trivial⟩)<|f_Q (aO (vs:=[_,_]) Tryz.isAgg34 Tryz.sizeOf34 rfl rfl ⟨(rdA rfl),(rdA rfl),trivial⟩) ?_
 refine cL fa138_0 rfl<|cX Tryz.isAgg3 rfl (rdA rfl)<|cL fa138_1 rfl<|cX Tryz.isAgg3 rfl (rdA rfl) ?_
 refine f_S (aV Tryz.call9 rfl (fun U F=>jS (n:Int) A l cap Y bs cb Z R cc m.lv m.cl U (hr.up0 F) hl hN hok (hn.up0 F)) ?_);rintro _ _ ⟨B,AB,cB,mB,rfl,rfl,aj,_,ad⟩;obtain rfl:=ad X
 rw [X];dsimp only [aK,aJ];refine aB 5 rfl<|aD kh5<|aS fun kh6=>aG fun aa=>aB 3 rfl<|iY 32 rfl aN<|eA rfl rfl (aT fa138_2 rfl)<|eA rfl rfl (aH Tryz.isAgg3 rfl (rdA rfl)) ?_
 refine jY rfl rfl rfl rfl rfl (aV Tryz.call126 rfl (fun U F=>qG m.ep U he) ?_);rintro _ _ ⟨rfl,rfl⟩;dsimp only [aK,aJ];refine aB 3 rfl<|eA rfl rfl (aT k4 rfl)<|eA rfl rfl (aH Tryz.isAgg41 rfl (rdA rfl))<|eA rfl rfl (iH mS rfl)<|aB 1 rfl<|eA rfl rfl (iH bX rfl)<|aB 1 rfl<|eA rfl rfl (iH bX rfl)<|eA rfl rfl (o_mul rfl rfl _ (mul_q aA))<|aB 2 rfl ?_
 refine aD aa<|dX rfl (by rw [hD];simp) ?_
 refine bV kh6<|aG fun kh8=>aB 1 rfl<|aD kh8<|aY ?_
 exact bJ [] Tryz.results74 rfl aP ⟨rfl,rfl⟩
theorem Weights_spec (n:Nat) (A:Option Addr) (l:List Arc) (cap:Nat) (B:Option Addr) (arcs:List Int) (cb:Nat) (w:World) (hr:Ro (Fr w []) w A (l.flatMap bZ)) (hok:∀ x∈l,eK x) (hg:(cG (n:Int) l).2=0) (hB:Ro (Fr w []) w B (bF arcs)) (ah:rD l arcs) (ha:arcs.length≤16384):
    Meets Tryz.prog 120 [.agg #[.int .i64 (n:Int),.slice A l.length cap],.slice B arcs.length cb] w [] (fun u own' =>∃ A' c' m',u= .tuple #[.slice A' arcs.length c',.int .i64 0]∧own' =[m']∧Own 56 1 (.slice A' arcs.length c') arcs.length (w32s (wtL l arcs)) m'):=by
 obtain ⟨aj,al,hlen,ao⟩:=bS hg
 have hl:l.length≤9223372036854775807:=aA
 have hN:I64 (n:Int):=by constructor<;>omega
 refine bE Tryz.func120 rfl Tryz.ntmps120 rfl Owns.nil<|aG fun kh1=>f_S (cT rfl rfl fun b2=>?_)
 refine aB 2 rfl<|aD kh1<|aS fun kh2=>aG fun kh3=>f_Q (aO (vs:=[_,_]) Tryz.isAgg24 Tryz.sizeOf24 rfl rfl ⟨(rdA rfl),(rdA rfl),trivial⟩) ?_
 refine f_S (aV Tryz.call20 rfl (fun w_ ag=>f3 (n:Int) A l cap w_ (hr.up0 ag) hl hN hok) ?_);rintro _ _ ⟨rfl,rfl⟩;rw [hg];dsimp only [aK,aJ];refine aB 5 rfl<|aD kh3<|aG fun kh4=>aB 2 rfl<|aD kh4<|dX rfl aN<|bV kh2<|aS fun kh5=>aG fun kh6=>aB 1 rfl ?_
 refine dU bX rfl<|aB 1 rfl<|aD kh6<|dX rfl aA<|bV kh5<|aG fun kh7=>aB 1 rfl<|dU bX rfl<|f_S (o_make0 el204 rfl rfl arcs.length rfl aA aA fun v24 m24 o24=>?_)
 refine aB 1 rfl<|aD kh7<|aS fun kh8=>aG fun ac=>aB 1 rfl<|dU bX rfl<|aB 1 rfl<|aD ac<|aR ?_
 refine dA (α:=Nat×Value×Seg) [2,25,26] (fun ⟨k,ov,J⟩=>[(27,.int .i64 (k:Int)),(8,ov)]) (fun ⟨k,ov,J⟩=>[J,[(b2,blk [.int .i64 (n:Int),.slice A l.length cap] 24)]]) (fun ⟨k,ov,J⟩=>k≤arcs.length∧Own 56 1 ov (wtL l (arcs.take k)).length (w32s (wtL l (arcs.take k))) J) (fun ⟨k,ov,J⟩=>arcs.length - k) (0,v24,m24) ?_ ?_ ?_ ?_
 ·exact aF
 ·exact aC
 ·exact ⟨Nat.zero_le _,o24⟩
 ·rintro ⟨k,ov,J⟩ ⟨ak,X⟩;refine aG fun kh10=>aB 1 rfl<|aD kh10<|aS fun kh11=>aX rfl (fun ae=>?_) (fun ae=>?_)
  ·have hk:k<arcs.length:=aA
   obtain ⟨i,hi,O⟩:=ah _ (List.getElem_mem hk)
   obtain ⟨bB,oB,rfl,ad,ab⟩:=hB (fX hk)
   obtain ⟨bl,off,rfl,hS,hc⟩:=hr (eX bZ dD aA O)
   have ai:=wtL_next hk O hi
   have F:=wtL_len l (arcs.take k)
   rw [List.length_take] at F;refine bV kh11<|aS fun kh12=>aR<|aG fun kh13=>f_Q (aL bX rfl rfl (oB+k))<|f_Q (aH Tryz.isAgg3 rfl (show Rd _ _ _ _ _ (.int .i64 (i:Int)) by rw [← hi];exact d3 (enc:=(.int .i64 ·)) ad ab hk)) ?_
   refine aB 1 rfl<|aD kh13<|aS fun kh14=>aG fun U=>aB 3 rfl<|iY 33 rfl aA<|aB 1 rfl<|eA rfl rfl (aT fT rfl)<|eA rfl rfl (aH Tryz.isAgg22 rfl (rdA rfl))<|eA rfl rfl (iH jB rfl) ?_
   refine aB 2 rfl<|aD U<|dX rfl aA<|bV kh14<|aI<|aB 1 rfl<|cL fT rfl<|cX Tryz.isAgg22 rfl (rdA rfl)<|aB 1 rfl<|f_Q (aL jB rfl rfl (off+i*3)) ?_
   refine cL fa69_2 rfl<|f_Q (aH Tryz.isAgg56 rfl (rdS hS (by have:=hc (i*3+2) _ (by rw [iV bZ dD l i 2 O aA];rfl);rwa [← Nat.add_assoc] at this))) ?_
   refine f_S (bQ el204 aA rfl rfl rfl fun am=>?_);refine f_S (dE el204 rfl rfl X (ys:=[.int .u32 l[i].wt]) ⟨(rdA rfl),trivial⟩ rfl rfl aA aA fun Y aa Z=>?_);refine aB 1 rfl<|aZ<|dF<|bO kh12<|aI<|f_Q (a8 rfl rfl)<|aB 1 rfl<|aZ ?_
   refine cS (a6 (k+1,Y,aa) (by first|omega|(dsimp only;omega)|(simp;omega)) ⟨aA,by rw [ai,List.length_append,w32s_append];exact Z⟩ ?_ ?_ ?_)
   ·exact aF
   ·exact aF
   ·exact aC
  ·obtain rfl:k=arcs.length:=aA
   rw [List.take_length] at X;have F:=wtL_len l arcs
   obtain ⟨Ao,co,rfl,an⟩:=X.val
   refine cN<|cO<|cO<|eC<|bO kh8<|aG fun kh16=>aB 3 rfl<|aD kh16<|aY ?_
   exact cZ [J] Tryz.results120 rfl rfl aC ⟨Ao,co,J,by rw [F],rfl,by rw [F] at X;exact X⟩
theorem qrow_spec (n:Nat) (A:Option Addr) (l:List Arc) (cap b1 b2 b3 bm:Nat) (Bi:Option Addr) (U:List Bool) (ci:Nat) (Bl:Option Addr) (B:List Int) (cl:Nat) (lv c ep:Int) (dv:Value) (D:List Int) (Z:Seg) (v:Nat) (w:World) (hr:Ro (Fr w [[(bm,blk [.int .i64 lv,.int .i64 c,.int .i64 ep,dv] 138)],Z]) w A (l.flatMap bZ)) (hok:∀ x∈l,eK x) (hg:(cG (n:Int) l).2=0)
    (h1:Ro (Fr w [[(bm,blk [.int .i64 lv,.int .i64 c,.int .i64 ep,dv] 138)],Z]) w (some ⟨b1,0,none⟩) [.int .i64 (n:Int),.slice A l.length cap]) (h2:Ro (Fr w [[(bm,blk [.int .i64 lv,.int .i64 c,.int .i64 ep,dv] 138)],Z]) w (some ⟨b2,0,none⟩) [.slice Bi U.length ci]) (h3:Ro (Fr w [[(bm,blk [.int .i64 lv,.int .i64 c,.int .i64 ep,dv] 138)],Z]) w (some ⟨b3,0,none⟩) [.slice Bl B.length cl]) (hi:Ro (Fr w [[(bm,blk [.int .i64 lv,.int .i64 c,.int .i64 ep,dv] 138)],Z]) w Bi (U.map .bool)) (bq:U.length=n) (hB:Ro (Fr w [[(bm,blk [.int .i64 lv,.int .i64 c,.int .i64 ep,dv] 138)],Z]) w Bl (bF B)) (aj:∀ u∈B,0≤u∧u<(n:Int)) (bp:B.length≤16384)
    (bD:v<n) (hv:U.getD v false=true) (hO:Own 46 1 dv D.length (fH D) Z) (bk:D.length≤268435456) (hw:Owns w [[(bm,blk [.int .i64 lv,.int .i64 c,.int .i64 ep,dv] 138)],Z]):
    Meets Tryz.prog 174 ([.int .i64 (v:Int)]++[.pointer (some ⟨b1,0,none⟩),.pointer (some ⟨b2,0,none⟩),.pointer (some ⟨b3,0,none⟩),.pointer (some ⟨bm,0,none⟩)]) w [[(bm,blk [.int .i64 lv,.int .i64 c,.int .i64 ep,dv] 138)],Z]
      (fun u own' =>∃ W J F,u= .int .i64 0∧own' =[[(bm,blk [.int .i64 lv,.int .i64 c,.int .i64 ep,J] 138)],F]∧Own 46 1 J (D++j2 B W).length (fH (D++j2 B W)) F∧IsD n (l.map (trn false)) (pW l U) v W):=by
 obtain ⟨bv,bC,hlen,bj⟩:=bS hg
 have hl:l.length≤9223372036854775807:=aA
 have hN:I64 (n:Int):=by constructor<;>omega
 have aw:iA (n:Int) l [(v:Int)]=0:=by unfold iA;rw [if_neg (by rw [hg];simp),if_neg (by simp;omega)]
 have ae:wcode (n:Int) l (v:Int) U.length=0:=by unfold wcode;rw [if_neg (by rw [aw];simp),if_neg aA]
 obtain ⟨a2,ax,bh,ac,ah⟩:=h1 aN
 obtain ⟨rfl,rfl⟩:b1=a2∧0=ax:=by cases bh;exact ⟨rfl,rfl⟩
 obtain ⟨ay,bg,bi,bc,an⟩:=h2 aN
 obtain ⟨rfl,rfl⟩:b2=ay∧0=bg:=by cases bi;exact ⟨rfl,rfl⟩
 obtain ⟨au,al,ar,ba,a1⟩:=h3 aN
 obtain ⟨rfl,rfl⟩:b3=au∧0=al:=by cases ar;exact ⟨rfl,rfl⟩
 refine bE Tryz.func174 rfl Tryz.ntmps174 rfl hw<|aG fun kh1=>aB 1 rfl<|aD kh1<|aG fun kh2=>f_Q (aO (vs:=[_,_]) Tryz.isAgg24 Tryz.sizeOf24 rfl rfl ⟨(rdS ac (ah 0 _ rfl)),(rdS ac (ah 1 _ rfl)),trivial⟩)<|aB 1 rfl<|f_Q (aH Tryz.isAgg37 rfl (rdS bc (an 0 _ rfl))) ?_
 refine f_S (aV Tryz.call10 rfl (fun w_ ak=>WithinB_spec (n:Int) A l cap (v:Int) Bi U ci w_ (hr.up0 ak) (hi.up0 ak) hl hN hok) ?_);rintro _ _ ⟨vW,mW,W,rfl,rfl,ad,_,av⟩;rw [ae];have hW:=av ae
 rw [Int.toNat_natCast,Int.toNat_natCast,if_pos hv] at hW;obtain ⟨hW,_⟩:=hW
 have br:=hW.len
 obtain ⟨AW,cW,rfl,bu⟩:=ad.val
 obtain ⟨bW,ag,rfl,rfl⟩:=ad.at_ aA
 dsimp only [aK,aJ];refine aB 5 rfl<|aD kh2<|aS fun kh3=>aG fun kh4=>aB 2 rfl<|aD kh4<|dX rfl aN<|bV kh3<|aS fun kh5=>aG fun am=>?_
 refine f_Q (aH Tryz.isAgg25 rfl (rdS ba (a1 0 _ rfl)))<|dU bX rfl<|aB 1 rfl<|aD am<|aR ?_
 refine dA (α:=Nat×Value×Seg) [4,7,21,22] (fun ⟨j,J,F⟩=>[(23,.int .i64 (j:Int))]) (fun ⟨j,J,F⟩=>[[(bm,blk [.int .i64 lv,.int .i64 c,.int .i64 ep,J] 138)],F,[(bW,blk (fH W++ag) 46)]]) (fun ⟨j,J,F⟩=>j≤B.length∧Own 46 1 J (D++j2 (B.take j) W).length (fH (D++j2 (B.take j) W)) F) (fun ⟨j,J,F⟩=>B.length - j) (0,dv,Z) ?_ ?_ ?_ ?_
 ·exact aF
 ·exact aC
 ·exact ⟨Nat.zero_le _,by simpa [j2] using hO⟩
 ·rintro ⟨j,J,F⟩ ⟨bt,aa⟩;refine aG fun kh7=>aB 1 rfl<|aD kh7<|aS fun kh8=>aX rfl (fun ao=>?_) (fun ao=>?_)
  ·have hj:j<B.length:=aA
   obtain ⟨u,hu,bw⟩:∃ u:Nat,B[j]=(u:Int)∧u<n:=⟨B[j].toNat,by have:=aj _ (List.getElem_mem hj);omega,by have:=aj _ (List.getElem_mem hj);omega⟩
   obtain ⟨bB,oB,rfl,bf,aq⟩:=hB (fX hj)
   have ai:j2 (B.take (j+1)) W=j2 (B.take j) W++[dg W u]:=by rw [rowD_take hj,hu];rfl
   have ap:=rowD_len (B.take j) W
   rw [List.length_take] at ap;refine bV kh8<|aS fun kh9=>aR<|aG fun kh10=>f_Q (aL bX rfl rfl (oB+j))<|f_Q (aH Tryz.isAgg3 rfl (show Rd _ _ _ _ _ (.int .i64 (u:Int)) by rw [← hu];exact d3 (enc:=(.int .i64 ·)) bf aq hj)) ?_
   refine aB 1 rfl<|aD kh10<|c7 [[(bW,blk (fH W++ag) 46)]] rfl<|f_T 0 rfl (aT k4 rfl)<|f_T 2 rfl (aU rfl)<|f_T 3 rfl (aU rfl)<|f_T 4 rfl (aL mS rfl rfl (u))<|f_T 5 rfl (aH Tryz.isAgg46 rfl (rdA (eF (mQ (dg_at aA)))))<|gH 1 6 rfl rfl aW rfl rfl rfl rfl rfl rfl ?_ ?_
   ·refine (aH Tryz.isAgg41 rfl (rdA rfl)).does ⟨aC,?_⟩;refine f_O 6 rfl (bQ q6 aA rfl rfl rfl fun az=>⟨aC,?_⟩);refine f_O 7 rfl (dE q6 rfl rfl aa (ys:=[.int .u64 (dg W u)]) ⟨(rdA rfl),trivial⟩ rfl rfl (by rw [List.length_append];omega) (by rw [List.length_append];omega) fun be ab Y=>⟨aC,?_⟩);obtain ⟨X,O,rfl,_⟩:=Y.val
    refine f_T 8 rfl (aT k4 rfl)<|fZ 9 rfl (bU Tryz.sizeOf41 rfl rfl rfl rfl (Nat.le_refl _) [.int .i64 lv,.int .i64 c,.int .i64 ep,.slice X ((D++j2 (B.take j) W).length+1) O] rfl ⟨aC,?_⟩)
    refine cU aW<|dF<|bO kh9<|aI<|f_Q (a8 rfl rfl)<|aB 1 rfl<|aZ ?_
    refine cS (a6 (j+1,.slice X ((D++j2 (B.take j) W).length+1) O,ab) (by first|omega|(dsimp only;omega)|(simp;omega)) ⟨aA,by rw [ai,← List.append_assoc,← u64_len1];exact Y⟩ ?_ ?_ ?_)
    ·exact aF
    ·exact aF
    ·exact aC
   ·refine (bQ q6 aA rfl rfl rfl fun az=>⟨aC,?_⟩);refine f_O 1 rfl ((aH Tryz.isAgg41 rfl (rdA rfl)).does ⟨aC,?_⟩);refine f_O 7 rfl (dE q6 rfl rfl aa (ys:=[.int .u64 (dg W u)]) ⟨(rdA rfl),trivial⟩ rfl rfl (by rw [List.length_append];omega) (by rw [List.length_append];omega) fun be ab Y=>⟨aC,?_⟩);obtain ⟨X,O,rfl,_⟩:=Y.val
    refine f_T 8 rfl (aT k4 rfl)<|fZ 9 rfl (bU Tryz.sizeOf41 rfl rfl rfl rfl (Nat.le_refl _) [.int .i64 lv,.int .i64 c,.int .i64 ep,.slice X ((D++j2 (B.take j) W).length+1) O] rfl ⟨aC,?_⟩)
    refine cU aW<|dF<|bO kh9<|aI<|f_Q (a8 rfl rfl)<|aB 1 rfl<|aZ ?_
    refine cS (a6 (j+1,.slice X ((D++j2 (B.take j) W).length+1) O,ab) (by first|omega|(dsimp only;omega)|(simp;omega)) ⟨aA,by rw [ai,← List.append_assoc,← u64_len1];exact Y⟩ ?_ ?_ ?_)
    ·exact aF
    ·exact aF
    ·exact aC
  ·obtain rfl:j=B.length:=aA
   rw [List.take_length] at aa;refine cN<|cO<|cO<|eC<|bO kh5<|aG fun kh11=>aB 1 rfl<|aD kh11<|aY ?_
   exact bJ [[(bm,blk [.int .i64 lv,.int .i64 c,.int .i64 ep,J] 138)],F] Tryz.results174 rfl aC ⟨W,J,F,rfl,rfl,aa,hW⟩
theorem qwithin_spec (n:Nat) (A:Option Addr) (l:List Arc) (cap:Nat) (Ab:Option Addr) (bs:List Int) (cb:Nat) (Ac:Option Addr) (R:List Row) (cc:Nat) (q c ep:Int) (w:World) (hG:GN (Fr w []) w n A l Ab bs Ac R) (aa:clE (n:Int) l bs (bG R) q c=0):
    Meets Tryz.prog 156 [.agg #[.int .i64 (n:Int),.slice A l.length cap],.agg #[.slice Ab bs.length cb,.slice Ac R.length cc],.int .i64 q,.int .i64 c,.int .i64 ep] w [] (fun u own' =>∃ D A' cap' m',u= .tuple #[.agg (gQ ⟨q,c,ep,A',D,cap'⟩).toArray,.int .i64 0]∧own' =[m']∧Own 46 1 (.slice A' D.length cap') D.length (fH D) m'∧MatOk l ((bG R).getD (q.toNat - 1) []) c D):=by
 have be:=hG
 obtain ⟨hr,hok,hn,U⟩:=be
 obtain ⟨bp,bu,hlen,ab⟩:=bS U.g
 have hl:l.length≤9223372036854775807:=aA
 have hN:I64 (n:Int):=by constructor<;>omega
 have aq:=U.len
 rw [d5] at aq;have ba:=U.many
 obtain ⟨n',k,j0,bv,_,bh,bt,bj,bk⟩:=j7 aa
 obtain rfl:n=n' :=aA
 have F:k<R.length:=aA
 obtain ⟨L,hL⟩:∃ L,(bG R).getD (q.toNat - 1) []=L:=⟨_,rfl⟩
 have am:=U.rowlen (k:=k) aA
 have an:=iF F
 rw [show q.toNat - 1 = k by omega] at hL;rw [hL] at am;have Z : (R[k]'F).2.1 = L := by rw [← an]; exact hL
 have ad:=hn.rows _ (List.getElem_mem F)
 have ay:=pY L c l
 have O:=fun (v:Int) (h:v∈bdL L c l)=>oL (n:=n) ab h
 obtain ⟨B,hB⟩:∃ B,bdL L c l=B:=⟨_,rfl⟩
 rw [hB] at ay O;obtain ⟨b0,o0,a1,au,a2⟩:=hn.c (fX F)
 obtain ⟨br, or, ax, ak, ag⟩ := ad.1 (fun e => by have := a7 (R[k]'F).2.1; rw [e] at this; rw [Z] at this; simp at this; omega)
 rw [Z] at ag;refine bE Tryz.func156 rfl Tryz.ntmps156 rfl Owns.nil<|aG fun kh1=>f_S (cT rfl rfl fun b5=>?_)
 refine f_S (cT rfl rfl fun b6=>?_);refine f_S (cQ Tryz.zeroValue138 rfl fun ah=>?_);refine aB 1 rfl<|aD kh1<|aG fun kh2=>f_Q (aO (vs:=[_,_]) Tryz.isAgg24 Tryz.sizeOf24 rfl rfl ⟨(rdA rfl),(rdA rfl),trivial⟩)<|f_Q (aO (vs:=[_,_]) Tryz.isAgg34 Tryz.sizeOf34 rfl rfl ⟨(rdA rfl),(rdA rfl),trivial⟩)<|aB 2 rfl ?_
 refine f_S (aV Tryz.call9 rfl (fun w_ hp_=>jS (n:Int) A l cap Ab bs cb Ac R cc q c w_ (hr.up0 hp_) hl hN hok (hn.up0 hp_)) ?_);rintro _ _ ⟨J,AB,cB,mB,rfl,rfl,aj,_,ao⟩;obtain rfl:J=B:=by rw [ao aa,show q.toNat - 1=k by omega,hL,hB]
 rw [aa];dsimp only [aK,aJ];refine aB 3 rfl<|f_S (cQ Tryz.zeroValue25 rfl fun b12=>?_)
 refine f_Z (bU Tryz.sizeOf25 rfl rfl rfl rfl cF _ rfl ?_);refine aB 1 rfl<|aD kh2<|aS fun kh3=>aG fun kh4=>aB 2 rfl<|aD kh4<|dX rfl aN<|bV kh3<|aG fun kh5=>cL eT rfl ?_
 refine cX Tryz.isAgg3 rfl (rdA rfl)<|f_S (eZ el37 rfl rfl n rfl aA aA ((qQ L c n 0).map .bool) (by rw [inTo_zero,List.map_replicate];exact (rep_flatC n _).symm) fun b36=>?_)
 refine f_S (cQ Tryz.zeroValue37 rfl fun Y=>?_);refine f_Z (bU Tryz.sizeOf37 rfl rfl rfl rfl cF _ rfl ?_);refine aD kh5<|aS fun kh6=>aG fun ap=>cL jD rfl<|f_Q (aH Tryz.isAgg32 rfl (v:= .slice (some ⟨b0,o0,none⟩) R.length cc) (rdA (by rw [← a1];rfl))) ?_
 refine aB 1 rfl<|f_Q (kM rfl rfl _ (Eq.trans (d7 aA) (show _=(k:Int) by omega))) ?_
 refine f_Q (aL gL rfl rfl (o0 + k)) <| f_Q (aH Tryz.isAgg25 rfl (v := .slice (some ⟨br, or, none⟩) L.length (R[k]'F).2.2) (show Rd _ _ _ _ _ (Value.slice (some ⟨br, or, none⟩) L.length (R[k]'F).2.2) by rw [← ax, ← Z]; exact d3 (enc := fG) au a2 F)) ?_;refine dU bX rfl <| aB 1 rfl <| aD ap <| aR ?_
 refine dA (α:=Nat) [2,3,4,5,10,12,14,42,43] (fun x=>[(44,.int .i64 (x:Int))]) (fun x=>[[(b36,blk ((qQ L c n x).map .bool) 4)],[(Y,blk [.slice (some ⟨b36,0,none⟩) n n] 37)],[(b12,blk [.slice AB J.length J.length] 25)],mB,[(ah,blk [.int .i64 0,.int .i64 0,.int .i64 0,.slice none 0 0] 138)],[(b5,blk [.int .i64 (n:Int),.slice A l.length cap] 24)]]) (fun x=>x≤n) (fun x=>n - x) (0) ?_ ?_ ?_ ?_
 ·exact aF
 ·exact aC
 ·exact Nat.zero_le _
 ·rintro x bf;refine aG fun kh8=>aB 1 rfl<|aD kh8<|aS fun kh9=>aX rfl (fun al=>?_) (fun al=>?_)
  ·have hx:x<L.length:=aA
   have av:=inTo_next (L:=L) (c:=c) (n:=n) (k:=x) aA
   refine bV kh9<|aS fun kh10=>aR<|aG fun kh11=>aB 1 rfl<|f_Q (aL bX rfl rfl (or+x))<|f_Q (aH Tryz.isAgg3 rfl (d3 (enc:=(.int .i64 ·)) ak ag hx))<|aB 2 rfl<|aD kh11<|aI ?_
   refine cX Tryz.isAgg37 rfl (rdA rfl)<|aB 4 rfl<|f_Q (aL o9 rfl rfl (x))<|f_Z (bU Tryz.sizeOf4 rfl rfl rfl rfl (by rw [List.length_map,inTo_len];omega) ((qQ L c n (x+1)).map .bool) (by rw [← av,List.map_set,eM hx]) ?_)
   refine aZ<|dF<|bO kh10<|aI<|f_Q (a8 rfl rfl)<|aB 1 rfl<|aZ ?_
   refine cS (a6 (x+1) (by first|omega|(dsimp only;omega)|(simp;omega)) aA ?_ ?_ ?_)
   ·exact aF
   ·exact aF
   ·exact aC
  ·obtain rfl:n=x:=aA
   refine cN<|cO<|cO<|eC<|bO kh6<|aG fun kh12=>aB 3 rfl<|f_Q (dL st138 rfl rfl)<|f_S (cQ Tryz.zeroValue138 rfl fun b17=>?_)
   refine f_Z (bP Tryz.sizeOf138 rfl rfl rfl rfl cF _ rfl ?_);refine aD kh12<|aG fun kh13=>f_Q (kT rfl rfl)<|aB 1 rfl<|aD kh13<|aS fun kh14=>aG fun ac=>cX Tryz.isAgg25 rfl (rdA rfl)<|dU bX rfl<|aB 1 rfl ?_
   refine aD ac<|aR ?_
   refine dA (α:=Nat×List Int×Value×Seg) [10,17,18,61,62] (fun ⟨i,D,dv,X⟩=>[(63,.int .i64 (i:Int))]) (fun ⟨i,D,dv,X⟩=>[[(b17,blk [.int .i64 q,.int .i64 c,.int .i64 ep,dv] 138)],X,[(b36,blk ((qQ L c n n).map .bool) 4)],[(Y,blk [.slice (some ⟨b36,0,none⟩) n n] 37)],[(b12,blk [.slice AB J.length J.length] 25)],mB,[(ah,blk [.int .i64 0,.int .i64 0,.int .i64 0,.slice none 0 0] 138)],[(b5,blk [.int .i64 (n:Int),.slice A l.length cap] 24)]]) (fun ⟨i,D,dv,X⟩=>i≤J.length∧Own 46 1 dv D.length (fH D) X∧MRows J (IsB l (pI l L c)) D i) (fun ⟨i,D,dv,X⟩=>J.length - i) (0,[],.slice none 0 0,[]) ?_ ?_ ?_ ?_
   ·exact aF
   ·exact aC
   ·exact ⟨Nat.zero_le _,Own.nil _ _,MRows.nil _ _⟩
   ·rintro ⟨i,D,dv,X⟩ ⟨bi,hO,hM⟩;refine fF (e:=[(63,_),(10,_),(17,_),(18,_),(61,_),(62,_)]) aF ?_;refine aG fun kh16=>aB 1 rfl<|aD kh16<|aS fun kh17=>aX rfl (fun az=>?_) (fun az=>?_)
    ·have hi:i<J.length:=aA
     obtain ⟨v,hv,ai⟩:∃ v:Nat,J[i]=(v:Int)∧v<n:=⟨J[i].toNat,by have:=O _ (List.getElem_mem hi);omega,by have:=O _ (List.getElem_mem hi);omega⟩
     have ae:L.getD v 0=c:=by have:=bdL_in (L:=L) (c:=c) (l:=l) (v:=J[i]) (by rw [hB];exact List.getElem_mem hi);rw [hv,Int.toNat_natCast] at this;exact this
     obtain ⟨bB,bq,rfl,rfl⟩:=aj.at_ aA
     have ar:D.length≤268435456:=by rw [hM.len];exact Nat.le_trans (Nat.mul_le_mul (show i≤16384 by omega) (show J.length≤16384 by omega)) (by decide)
     refine bV kh17<|aS fun kh18=>aR<|aG fun kh19=>f_Q (aL bX rfl rfl (i))<|f_Q (aH Tryz.isAgg3 rfl (rdA (v:= .int .i64 (v:Int)) (eF (by rw [eG hi,hv])))) ?_
     refine aB 1 rfl<|aD kh19<|aG fun kh20=>aB 2 rfl ?_
     refine f_S (jG [[(b17,blk [.int .i64 q,.int .i64 c,.int .i64 ep,dv] 138)],X] _ Tryz.call174 rfl rfl (by repeat (first|exact Sub.refl|refine aM ?_)) (fun w_ hp_=>qrow_spec n A l cap b5 Y b12 b17 (some ⟨b36,0,none⟩) (qQ L c n n) (qQ L c n n).length (some ⟨bB,0,none⟩) J J.length q c ep dv D X v w_ (hr.up hp_) hok U.g (roFr hp_) (by have h:=roFr (b:=Y) hp_;rw [← inTo_len L c n n] at h;exact h) (roFr hp_) (roFr hp_) (inTo_len _ _ _ _) (Own.fr aj hp_) O aA ai (by rw [inTo_at ai];simpa using ae) hO ar hp_.owns) ?_);rintro _ _ ⟨W,bc,aw,rfl,rfl,hO',hW⟩;dsimp only [aK,aJ];refine aB 1 rfl<|aD kh20<|aG fun kh21=>aB 2 rfl<|aD kh21<|dX rfl aN<|dY<|dF<|bO kh18<|aI ?_
     refine f_Q (a8 rfl rfl)<|aB 1 rfl<|aZ ?_
     refine cS (a6 (i+1,D++j2 J W,bc,aw) (by first|omega|(dsimp only;omega)|(simp;omega)) ⟨aA,hO',hM.next hi fun j hj=>by rw [hv,Int.toNat_natCast];exact within_row ab ae hW (by have:=O _ (List.getElem_mem hj);omega)⟩ ?_ ?_ ?_)
     ·exact aF
     ·exact aF
     ·exact aC
    ·obtain rfl:i=J.length:=aA
     obtain ⟨AD,cD,rfl,bg⟩:=hO.val
     refine cN<|cO<|cO<|eC<|bO kh14<|aG fun kh22=>f_Q (aO (vs:=[_,_,_,_]) Tryz.isAgg138 Tryz.sizeOf138 rfl rfl ⟨(rdA rfl),(rdA rfl),(rdA rfl),(rdA rfl),trivial⟩)<|f_Z (bP Tryz.sizeOf138 rfl rfl rfl rfl cF _ rfl ?_)
     refine aB 1 rfl<|aD kh22<|aY ?_
     exact gW (vs:=gQ ⟨q,c,ep,AD,D,cD⟩) [X] Tryz.results156 rfl Tryz.isAgg138 Tryz.sizeOf138 rfl ⟨(rdA rfl),(rdA rfl),(rdA rfl),(rdA rfl),trivial⟩ rfl aC ⟨D,AD,cD,X,rfl,rfl,hO,by rw [show q.toNat - 1=k by omega,hL];exact ⟨by rw [hB];exact hM.len,by rw [hB];exact fun a j ha hj=>hM.at_ a j ha ha hj⟩⟩
theorem qweighed_spec (n:Nat) (A:Option Addr) (l:List Arc) (cap:Nat) (B:Option Addr) (arcs:List Int) (cb:Nat) (B2:Option Addr) (ah:Nat) (w:World) (hr:Ro (Fr w []) w A (l.flatMap bZ)) (hlen:l.length≤8192) (hB:Ro (Fr w []) w B (bF arcs)) (aj:rD l arcs) (ha:arcs.length≤16384) (am:Ro (Fr w []) w B2 (w32s (wtL l arcs))):
    Meets Tryz.prog 157 [.agg #[.int .i64 (n:Int),.slice A l.length cap],.slice B arcs.length cb,.slice B2 arcs.length ah] w [] (fun u own' =>∃ A' c' m',u= .agg #[.int .i64 (n:Int),.slice A' l.length c']∧own' =[m']∧Own 69 3 (.slice A' l.length c') l.length (l.flatMap bZ) m'):=by
 have hA:A=none→l.length=0:=fun e=>by
   rcases Nat.eq_zero_or_pos l.length with h|h
   · exact h
   · obtain ⟨b,o,e2,_⟩:=hr (eX bZ dD aA h)
     rw [e] at e2;cases e2
 refine bE Tryz.func157 rfl Tryz.ntmps157 rfl Owns.nil<|aG fun kh1=>f_S (cT rfl rfl fun b3=>?_)
 refine f_S (cQ Tryz.zeroValue24 rfl fun Z=>?_);refine aD kh1 ?_;refine qZ (α:=Nat×Option Addr×Nat×Seg) [1,2,6] (fun ⟨b7,A',c',F⟩=>[(7,.pointer (some ⟨b7,0,none⟩))]) (fun ⟨b7,A',c',F⟩=>[[(b7,blk [.int .i64 (n:Int),.slice A' l.length c'] 24)],F,[(Z,blk [.int .i64 0,.slice none 0 0] 24)]]) (fun ⟨b7,A',c',F⟩=>Own 69 3 (.slice A' l.length c') l.length (l.flatMap bZ) F) ?_ ?_
 ·
  intro K2 Y;refine c7 [[(b3,blk [.int .i64 (n:Int),.slice A l.length cap] 24)],[(Z,blk [.int .i64 0,.slice none 0 0] 24)]] rfl<|f_T 0 rfl (aT eT rfl)<|f_T 1 rfl (aH Tryz.isAgg3 rfl (rdA rfl))<|f_T 2 rfl (aT fT rfl)<|f_T 3 rfl (aH Tryz.isAgg22 rfl (rdA rfl))<|gH 4 6 rfl rfl aW rfl rfl rfl rfl rfl rfl ?_ ?_
  ·
   refine (aV Tryz.call37 rfl (fun w_ O=>oN A l.length (l.flatMap bZ) cap w_ (hr.up0 O) hA (dO bZ dD l) (arcs_one l) aA) ?_);rintro ad _ ⟨F,rfl,J⟩;obtain ⟨A',c',rfl,ag⟩:=J.val
   dsimp only [aK,aJ];refine ⟨aC,?_⟩;refine f_T 5 rfl (dL st24 rfl rfl)<|f_O 6 rfl (cQ Tryz.zeroValue24 rfl fun b7=>⟨aC,?_⟩)
   refine fZ 7 rfl (bP Tryz.sizeOf24 rfl rfl rfl rfl cF _ rfl ⟨aC,?_⟩);refine cU aW<|cS (Y _ _ (b7,A',c',F) J ?_ ?_ ?_)
   · exact aF
   · exact aF
   · exact aC
  ·
   refine (cQ Tryz.zeroValue24 rfl fun b7=>⟨aC,?_⟩);refine f_O 4 rfl (aV Tryz.call37 rfl (fun w_ O=>oN A l.length (l.flatMap bZ) cap w_ (hr.up0 O) hA (dO bZ dD l) (arcs_one l) aA) ?_);rintro ad _ ⟨F,rfl,J⟩;obtain ⟨A',c',rfl,ag⟩:=J.val
   dsimp only [aK,aJ];refine ⟨aC,?_⟩;refine f_T 5 rfl (dL st24 rfl rfl)<|fZ 7 rfl (bP Tryz.sizeOf24 rfl rfl rfl rfl cF _ rfl ⟨aC,?_⟩)
   refine cU aW<|cS (Y _ _ (b7,A',c',F) J ?_ ?_ ?_)
   · exact aF
   · exact aF
   · exact aC
 ·
  rintro ⟨b7,A',c',F⟩ J;refine aS fun kh3=>aG fun ai=>aB 1 rfl<|dU bX rfl<|aB 1 rfl<|aD ai<|aR ?_
  refine dA (α:=Nat) [2,6,7,16,17] (fun k=>[(18,.int .i64 (k:Int))]) (fun k=>[F,[(b7,blk [.int .i64 (n:Int),.slice A' l.length c'] 24)],[(Z,blk [.int .i64 0,.slice none 0 0] 24)]]) (fun k=>k≤arcs.length) (fun k=>arcs.length - k) (0) ?_ ?_ ?_ ?_
  · exact aF
  · exact aC
  · exact Nat.zero_le _
  ·
   rintro k ao;refine fF (e:=[(18,_),(2,_),(6,_),(7,_),(16,_),(17,_)]) aF ?_;refine aG fun kh5=>aB 1 rfl<|aD kh5<|aS fun kh6=>aX rfl (fun al=>?_) (fun al=>?_)
   ·
    have hk:k<arcs.length:=aA
    obtain ⟨i,hi,U⟩:=aj _ (List.getElem_mem hk)
    obtain ⟨bB,oB,rfl,ab,aa⟩:=hB (fX hk)
    have an:=wtL_len l arcs
    have hwk:k<(wtL l arcs).length:=aA
    have ae:(wtL l arcs)[k]=l[i].wt:=by have:=wtL_at hk U hi;rw [List.getElem?_eq_getElem hwk] at this;exact Option.some.inj this
    obtain ⟨b2,o2,rfl,ak,ac⟩:=am (fX hwk)
    obtain ⟨bo,X,rfl,rfl⟩:=J.at_ aA
    refine bV kh6<|aS fun kh7=>aR<|aG fun kh8=>aB 1 rfl<|f_Q (aL bX rfl rfl (oB+k))<|f_Q (aH Tryz.isAgg3 rfl (show Rd _ _ _ _ _ (.int .i64 (i:Int)) by rw [← hi];exact d3 (enc:=(.int .i64 ·)) ab aa hk)) ?_
    refine aB 2 rfl<|aD kh8<|c7 [[(b7,blk [.int .i64 (n:Int),.slice (some ⟨bo,0,none⟩) l.length c'] 24)]] rfl<|f_T 0 rfl (aT fT rfl)<|f_T 1 rfl (aH Tryz.isAgg22 rfl (rdA rfl))<|f_T 2 rfl (aU rfl)<|f_T 3 rfl (aU rfl)<|f_T 4 rfl (aU rfl)<|f_T 5 rfl (aL sl204 rfl rfl (o2+k))<|f_T 6 rfl (aH Tryz.isAgg56 rfl (show Rd _ _ _ _ _ (.int .u32 l[i].wt) by rw [← ae];exact d3 (enc:=(.int .u32 ·)) ak ac hwk)) ?_
    refine f_T 7 rfl (aL jB rfl rfl (i*3))<|f_T 8 rfl (aT fa69_2 rfl)<|fZ 9 rfl (bU Tryz.sizeOf56 rfl rfl rfl rfl (by show i*3+2+1≤_;rw [List.length_append,dO bZ dD];omega) (l.flatMap bZ++X) (by have h:=lX dD X (q:=2) (v:= .int .u32 l[i].wt) aA l i l[i] U rfl;rw [List.set_getElem_self] at h;exact h) ⟨aC,?_⟩)
    refine cU aW<|dF<|bO kh7<|aI<|f_Q (a8 rfl rfl)<|aB 1 rfl<|aZ ?_
    refine cS (a6 (k+1) (by first|omega|(dsimp only;omega)|(simp;omega)) aA ?_ ?_ ?_)
    · exact aF
    · exact aF
    · exact aC
   ·
    refine cN<|cO<|cO<|eC<|bO kh3<|aG fun kh9=>f_Q (aO (vs:=[_,_]) Tryz.isAgg24 Tryz.sizeOf24 rfl rfl ⟨(rdA rfl),(rdA rfl),trivial⟩)<|f_Z (bP Tryz.sizeOf24 rfl rfl rfl rfl cF _ rfl ?_)
    refine aD kh9<|aY ?_
    exact f_fin1c (vs:=[.int .i64 (n:Int),.slice A' l.length c']) [F] Tryz.results157 rfl Tryz.isAgg24 Tryz.sizeOf24 rfl ⟨(rdA rfl),(rdA rfl),trivial⟩ aC ⟨A',c',F,rfl,rfl,J⟩
theorem qLeaf_spec (n:Nat) (A:Option Addr) (l:List Arc) (cap:Nat) (X:Option Addr) (bs:List Int) (cb:Nat) (Z:Option Addr) (R:List Row) (cc:Nat) (c ep:Int) (B2:Option Addr) (len Y:Nat) (w:World) (hG:GN (Fr w []) w n A l X bs Z R) (U:clE (n:Int) l bs (bG R) 1 c=0) (he:0≤ep∧ep≤1073741824) (aa:Ro (Fr w []) w B2 (w32s (wtL l (gF (inP ((bG R).getD 0 []) c) l)))) (ab:len=(gF (inP ((bG R).getD 0 []) c) l).length):
    Meets Tryz.prog 121 [.agg #[.int .i64 (n:Int),.slice A l.length cap],.agg #[.slice X bs.length cb,.slice Z R.length cc],.int .i64 c,.int .i64 ep,.slice B2 len Y] w [] (fun u own' =>∃ D A' cap' m',u= .tuple #[.agg (gQ ⟨1,c,ep,A',D,cap'⟩).toArray,.int .i64 0]∧own' =[m']∧Own 46 1 (.slice A' D.length cap') D.length (fH D) m'∧MatOk l ((bG R).getD 0 []) c D):=by
 have al:=hG
 obtain ⟨hr,hok,hn,J⟩:=al
 obtain ⟨am,ao,hlen,ap⟩:=bS J.g
 have hl:l.length≤9223372036854775807:=aA
 have hN:I64 (n:Int):=by constructor<;>omega
 have ag:=J.len
 rw [d5] at ag;have ad:=J.many
 subst ab;have ac:=kX (inP ((bG R).getD 0 []) c) l
 obtain ⟨arcs,ha⟩:∃ arcs,gF (inP ((bG R).getD 0 []) c) l=arcs:=⟨_,rfl⟩
 have ai:rD l arcs:=by rw [← ha];exact mV _ _
 rw [ha] at aa ac ⊢;refine bE Tryz.func121 rfl Tryz.ntmps121 rfl Owns.nil<|aG fun kh1=>f_S (cT rfl rfl fun b5=>?_)
 refine f_S (cT rfl rfl fun b6=>?_);refine f_S (cQ Tryz.zeroValue138 rfl fun an=>?_);refine aB 1 rfl<|aD kh1<|aG fun kh2=>f_Q (aO (vs:=[_,_]) Tryz.isAgg24 Tryz.sizeOf24 rfl rfl ⟨(rdA rfl),(rdA rfl),trivial⟩)<|f_Q (aO (vs:=[_,_]) Tryz.isAgg34 Tryz.sizeOf34 rfl rfl ⟨(rdA rfl),(rdA rfl),trivial⟩)<|aB 1 rfl ?_
 refine f_S (aV Tryz.call119 rfl (fun O F=>CInner_spec (n:Int) A l cap X bs cb Z R cc 1 c O (hr.up0 F) hl hN hok (hn.up0 F)) ?_);rintro _ _ ⟨M,AM,cM,mM,rfl,rfl,ak,_,ae⟩;obtain rfl:M=arcs:=(ae U).trans ha
 rw [U];dsimp only [aK,aJ];refine aB 5 rfl<|aD kh2<|aS fun kh3=>aR<|aG fun kh4=>aB 3 rfl<|aD kh4<|dX rfl aN<|aG fun kh5=>aB 1 rfl ?_
 refine f_S (aV Tryz.call126 rfl (fun O F=>qG ep O he) ?_);rintro _ _ ⟨rfl,rfl⟩;dsimp only [aK,aJ];refine aB 2 rfl<|aD kh5<|iJ rfl<|aG fun kh6=>aB 1 rfl<|dU sl204 rfl<|aB 1 rfl<|dU bX rfl<|aB 2 rfl<|aD kh6 ?_
 refine dX rfl aN<|dY<|dF<|bO kh3<|aS fun kh7=>c7 [[(b5,blk [.int .i64 (n:Int),.slice A l.length cap] 24)],[(b6,blk [.slice X bs.length cb,.slice Z R.length cc] 34)]] rfl<|f_T 0 rfl (aO (vs:=[_,_]) Tryz.isAgg24 Tryz.sizeOf24 rfl rfl ⟨(rdA rfl),(rdA rfl),trivial⟩)<|f_T 1 rfl (aU rfl)<|f_T 2 rfl (aU rfl)<|f_T 4 rfl (aO (vs:=[_,_]) Tryz.isAgg34 Tryz.sizeOf34 rfl rfl ⟨(rdA rfl),(rdA rfl),trivial⟩) ?_
 refine f_T 5 rfl (aU rfl)<|f_T 6 rfl (aU rfl) ?_
 refine f_O 3 rfl (aV Tryz.call157 rfl (fun O F=>qweighed_spec n A l cap AM M M.length B2 Y O (hr.up0 F) hlen (eS (ak.seen F)) ai aA (aa.up0 F)) ?_);rintro _ _ ⟨A',c',m',rfl,rfl,ah⟩;dsimp only [aK,aJ];refine ⟨aC,?_⟩;refine f_O 7 rfl (aV Tryz.call156 rfl (fun O F=>qwithin_spec n A' l c' X bs cb Z R cc 1 c ep O ⟨eS (ah.seen F),hok,hn.up0 F,J⟩ U) ?_);rintro _ _ ⟨D,A2,c2,m2,rfl,rfl,aj,hD⟩;dsimp only [aK,aJ];refine ⟨aC,?_⟩;refine f_T 8 rfl (eU rfl rfl)<|f_T 9 rfl (eU rfl rfl)<|fZ 10 rfl (bP Tryz.sizeOf138 rfl rfl rfl rfl cF (gQ ⟨1,c,ep,A2,D,c2⟩) rfl ⟨aC,?_⟩)
 refine f_O 11 rfl ((bI rfl).does ⟨aC,?_⟩);refine cU aW<|bO kh7<|aY ?_
 exact gW (vs:=gQ ⟨1,c,ep,A2,D,c2⟩) [m2] Tryz.results121 rfl Tryz.isAgg138 Tryz.sizeOf138 rfl ⟨(rdA rfl),(rdA rfl),(rdA rfl),(rdA rfl),trivial⟩ rfl aC ⟨D,A2,c2,m2,rfl,rfl,aj,hD⟩
end Go.Proofs.YthpkelafioikaaaGreat
