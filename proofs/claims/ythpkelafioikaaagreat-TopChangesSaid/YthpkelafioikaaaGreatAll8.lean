import Derived.Test.YthpkelafioikaaaGreatFlyRun
import Derived.Test.YthpkelafioikaaaGreatAll7
import Derived.Test.YthpkelafioikaaaGreatFlyT
namespace Go.Proofs.YthpkelafioikaaaGreat
open Go Fly
set_option linter.unusedVariables false
set_option linter.unusedSimpArgs false
theorem jQ {L:List Int} {u:Nat} (h:u<L.length) (x:Int) (v:Nat):dK (L.set u x) v=if u=v then x else dK L v:=by
 unfold dK
 rw [List.getD_eq_getElem?_getD,List.getElem?_set]
 by_cases e:u=v
 ·rw [if_pos e,if_pos h,if_pos e];rfl
 ·rw [if_neg e,if_neg e,List.getD_eq_getElem?_getD]
def unl (L:List Int):Nat:=L.countP (fun x=>decide (x<0))
theorem unl_set:∀ {L:List Int} {i:Nat} {x:Int},i<L.length→dK L i<0→0≤x→unl (L.set i x)+1=unl L
 |y::L,0,x,_,h,hx=>by
  have hy:y<0:=by simpa [dK] using h
  simp [unl,hy,List.countP_cons,show ¬ x<0 by omega]
 |y::L,i+1,x,hi,h,hx=>by
  have:=unl_set (L:=L) (i:=i) (x:=x) (by simpa using hi) (by simpa [dK] using h) hx
  unfold unl at this ⊢
  simp only [List.set_cons_succ,List.countP_cons];omega
structure LayB (n:Nat) (e:List Arc) (s:Nat) (f L:List Int) (work:List Nat) (P:Nat→Prop):Prop where
 len:L.length=n
 ge:∀ v,v<n→-1≤dK L v
 s0:dK L s=0
 pred:∀ v,v<n→0≤dK L v→v≠s→∃ k,k<2*e.length∧0<fL e f k∧kto e k=v∧0≤dK L (dP e k)∧dK L v=dK L (dP e k)+1
 wk:∀ v,v∈work→v<n∧0≤dK L v
 cl:∀ k,k<2*e.length→0<fL e f k→0≤dK L (dP e k)→dP e k∉work→P k→0≤dK L (kto e k)
variable {n:Nat} {e:List Arc} {s t:Nat} {f L:List Int} {work:List Nat} {P:Nat→Prop}
theorem flAt_rep {n:Nat} {x:Int} {v:Nat} (h:v<n):dK (List.replicate n x) v=x:=by
 unfold dK;rw [List.getD_eq_getElem?_getD,List.getElem?_replicate,if_pos h];rfl
theorem nM (he:mO n e) {k:Nat} (hk:k<2*e.length):dP e k<n:=by
 have:=he _ (List.getElem_mem (show k / 2<e.length by omega))
 unfold dP;rw [pZ aA];split<;>omega
theorem kto_lt (he:mO n e) {k:Nat} (hk:k<2*e.length):kto e k<n:=by
 have:=he _ (List.getElem_mem (show k / 2<e.length by omega))
 unfold kto;rw [pZ aA];split<;>omega
theorem LayB.begin (he:mO n e) (hs:s<n):LayB n e s f ((List.replicate n (-1)).set s 0) [s] (fun _=>True):=by
 have G:∀ v,v<n→dK ((List.replicate n (-1)).set s 0) v=if s=v then 0 else -1:=fun v hv=>by rw [jQ (by simpa using hs),flAt_rep hv]
 refine ⟨aN,fun v hv=>by rw [G v hv];split<;>omega,by rw [G s hs,if_pos rfl],fun v hv h hne=>?_,fun v hv=>?_,fun k hk hl hf hn _=>?_⟩
 ·rw [G v hv,if_neg (fun e=>hne e.symm)] at h;omega
 ·simp at hv;subst hv;exact ⟨hs,by rw [G v hs,if_pos rfl];exact Int.le_refl _⟩
 ·have hlt:=nM he hk
  rw [G _ hlt] at hf
  split at hf
  ·rename_i e';exact absurd (by rw [← e'];simp) hn
  ·omega
theorem LayB.pop {v:Nat} (h:LayB n e s f L (v::work) (fun _=>True)):LayB n e s f L work (fun k=>dP e k≠v):=
 ⟨h.len,h.ge,h.s0,h.pred,fun u F=>h.wk u (List.mem_cons_of_mem _ F),fun k hk hl hf hn hne=>h.cl k hk hl hf (by simp;exact ⟨hne,hn⟩) trivial⟩
theorem LayB.weaken {Q:Nat→Prop} (h:LayB n e s f L work P) (hq:∀ k,k<2*e.length→Q k→P k):LayB n e s f L work Q:=
 ⟨h.len,h.ge,h.s0,h.pred,h.wk,fun k hk hl hf hn F=>h.cl k hk hl hf hn (hq k hk F)⟩
theorem LayB.see {k:Nat} (h:LayB n e s f L work P) (he:mO n e) (hk:k<2*e.length) (hf:0≤dK L (dP e k)) (Z:dK L (kto e k)<0) (hl:0<fL e f k):
  LayB n e s f (L.set (kto e k) (dK L (dP e k)+1)) (work++[kto e k]) (fun j=>P j∨j=k):=by
 have Y:=kto_lt he hk
 have aa:=nM he hk
 have G:∀ v,dK (L.set (kto e k) (dK L (dP e k)+1)) v=if kto e k=v then dK L (dP e k)+1 else dK L v:=fun v=>jQ (by rw [h.len];exact Y) _ v
 refine ⟨by simpa using h.len,fun v hv=>?_,?_,fun v hv J hne=>?_,fun v hv=>?_,fun j hj X O F U=>?_⟩
 ·rw [G];split
  ·omega
  ·exact h.ge v hv
 ·rw [G,if_neg (fun e' =>by rw [e',h.s0] at Z;omega)];exact h.s0
 ·rw [G] at J ⊢
  split at J
  ·rename_i e'
   rw [if_pos e'];refine ⟨k,hk,hl,e',?_,?_⟩
   ·rw [G,if_neg (fun e2=>by rw [← e2] at hf;omega)];exact hf
   ·rw [G,if_neg (fun e2=>by rw [← e2] at hf;omega)]
  ·rename_i e'
   rw [if_neg e'];obtain ⟨j,a,b,c,d,g⟩:=h.pred v hv J hne
   refine ⟨j,a,b,c,?_,?_⟩
   ·rw [G,if_neg (fun e2=>by rw [← e2] at d;omega)];exact d
   ·rw [G,if_neg (fun e2=>by rw [← e2] at d;omega)];exact g
 ·rw [G]
  rcases List.mem_append.1 hv with hv|hv
  ·have:=h.wk v hv
   split
   ·exact ⟨this.1,aA⟩
   ·exact this
  ·simp at hv;subst hv;rw [if_pos rfl];exact ⟨Y,aA⟩
 ·simp only [List.mem_append,List.mem_singleton,not_or] at F
  rw [G] at O ⊢;rw [if_neg (fun e' =>F.2 e'.symm)] at O
  split
  ·omega
  ·rename_i e'
   rcases U with U|rfl
   ·exact h.cl j hj X O F.1 U
   ·exact absurd rfl e'
theorem LayB.skip {k:Nat} (h:LayB n e s f L work P) (hn:¬ (dK L (kto e k)<0∧0<fL e f k)):LayB n e s f L work (fun j=>P j∨j=k):=
 ⟨h.len,h.ge,h.s0,h.pred,h.wk,fun j hj J O F U=>by
  rcases U with U|rfl
  ·exact h.cl j hj J O F U
  ·omega⟩
structure Lay (n:Nat) (e:List Arc) (s:Nat) (f L:List Int):Prop where
 len:L.length=n
 ge:∀ v,v<n→-1≤dK L v
 s0:dK L s=0
 pred:∀ v,v<n→0≤dK L v→v≠s→∃ k,k<2*e.length∧0<fL e f k∧kto e k=v∧0≤dK L (dP e k)∧dK L v=dK L (dP e k)+1
 cl:∀ k,k<2*e.length→0<fL e f k→0≤dK L (dP e k)→0≤dK L (kto e k)
theorem LayB.done (h:LayB n e s f L [] (fun _=>True)):Lay n e s f L:=⟨h.len,h.ge,h.s0,h.pred,fun k hk hl hf=>h.cl k hk hl hf aN trivial⟩
theorem Lay.reach (h:Lay n e s f L) (he:mO n e):∀ (m:Nat) (v:Nat),v<n→dK L v=(m:Int)→Reach e f s v
 |0,v,hv,hm=>by
  by_cases F:v=s
  ·subst F;exact .refl
  ·obtain ⟨k,a,b,c,d,g⟩:=h.pred v hv aA F;omega
 |m+1,v,hv,hm=>by
  by_cases F:v=s
  ·subst F;exact .refl
  ·obtain ⟨k,a,b,c,d,g⟩:=h.pred v hv aA F
   have:=Lay.reach h he m (dP e k) (nM he a) aA
   rw [← c];exact .step this a b
theorem Lay.side (h:Lay n e s f L) (he:mO n e) (F:dK L t<0):Side n e s t f (fun v=>decide (0≤dK L v)) where
 src:=by simp [h.s0]
 dst:=by simp;exact F
 shut:=fun k hk hl hA=>by simp at hA ⊢;exact h.cl k hk hl hA
 reach:=fun v hv hA=>by
  simp at hA;exact h.reach he (dK L v).toNat v hv aA
def jJ (e:List Arc) (j v:Nat):List Int:=((List.range j).filter (fun k=>dP e k==v)).map (fun k:Nat=>(k:Int))
def pO (e:List Arc) (n j:Nat):List (List Int):=(List.range n).map (jJ e j)
theorem kN (e:List Arc) (n j:Nat):(pO e n j).length=n:=by simp [pO]
theorem lH {e:List Arc} {n j v:Nat} (h:v<(pO e n j).length):(pO e n j)[v]=jJ e j v:=by simp [pO]
theorem kRow_next (e:List Arc) (j v:Nat):jJ e (j+1) v=if dP e j=v then jJ e j v++[(j:Int)] else jJ e j v:=by
 unfold jJ
 rw [List.range_succ,List.filter_append,List.map_append]
 by_cases h:dP e j=v
 ·rw [if_pos h];simp [h]
 ·rw [if_neg h];simp [h]
theorem kRows_next {e:List Arc} {n j:Nat} (h:dP e j<n):(pO e n j).set (dP e j) (jJ e j (dP e j)++[(j:Int)])=pO e n (j+1):=by
 refine List.ext_getElem (by simp [pO]) fun v h1 h2=>?_;rw [List.getElem_set,lH,lH,kRow_next]
 split
 ·rename_i e';subst e';rfl
 ·rfl
theorem kRows_zero (e:List Arc) (n:Nat):pO e n 0=List.replicate n []:=by
 refine List.ext_getElem (by simp [pO]) fun v h1 h2=>by rw [lH];simp [jJ]
theorem kRow_mem {e:List Arc} {j v:Nat} {x:Int} (h:x∈jJ e j v):∃ k:Nat,x=k∧k<j∧dP e k=v:=by
 unfold jJ at h
 obtain ⟨k,hk,rfl⟩:=List.mem_map.1 h
 rw [List.mem_filter] at hk;exact ⟨k,rfl,by simpa using hk.1,by simpa using hk.2⟩
theorem kRow_has {e:List Arc} {j k:Nat} (h:k<j):(k:Int)∈jJ e j (dP e k):=by
 unfold jJ
 exact List.mem_map.2 ⟨k,List.mem_filter.2 ⟨by simpa using h,aN⟩,rfl⟩
theorem kRow_len (e:List Arc) (j v:Nat):(jJ e j v).length≤j:=by
 unfold jJ;rw [List.length_map];exact Nat.le_trans (List.length_filter_le _ _) aN
abbrev row (e:List Arc) (v:Nat):List Int:=jJ e (2*e.length) v
theorem row_at {e:List Arc} {v i:Nat} (h:i<(row e v).length):∃ k:Nat,(row e v)[i]=(k:Int)∧k<2*e.length∧dP e k=v:=kRow_mem (List.getElem_mem h)
def Good (e:List Arc) (f L:List Int) (k:Nat):Prop:=0<fL e f k∧dK L (kto e k)=dK L (dP e k)+1
structure Nx (n:Nat) (e:List Arc) (nx:List Int):Prop where
 len:nx.length=n
 rng:∀ v,v<n→0≤dK nx v∧dK nx v≤((row e v).length:Int)
def Dead (e:List Arc) (t:Nat) (nx:List Int) (v:Nat):Prop:=dK nx v=((row e v).length:Int)∧v≠t
def Past (n:Nat) (e:List Arc) (t:Nat) (f L nx:List Int):Prop:=∀ v,v<n→∀ (j k:Nat),(j:Int)<dK nx v→(row e v)[j]? =some (k:Int)→Good e f L k→Dead e t nx (kto e k)
structure Wy (n:Nat) (e:List Arc) (s:Nat) (f L nx:List Int) (W:List Nat) (v:Nat):Prop where
 way:Way e s v W
 good:∀ k,k∈W→Good e f L k
 cur:∀ k,k∈W→(row e (dP e k))[(dK nx (dP e k)).toNat]? =some (k:Int)
 nx:Nx n e nx
variable {nx:List Int} {W:List Nat} {v:Nat}
theorem Wy.up (h:Wy n e s f L nx W v):Up e L W:=fun k hk=>(h.good k hk).2
theorem Way.end_lt {L:List Int}:∀ {W:List Nat} {u v:Nat},Way e u v W→Up e L W→∀ k,k∈W→dK L (dP e k)<dK L v
 |[],_,_,_,_,k,h=>by simp at h
 |j::r,u,v,⟨h1,h2,h3⟩,hU,k,h=>by
  have F:Up e L r:=fun i hi=>hU i (List.mem_cons_of_mem _ hi)
  have hj:=hU j (List.mem_cons_self ..)
  rcases List.mem_cons.1 h with rfl|h
  ·cases r with
   |nil=>have:kto e k=v:=h3;rw [← this];omega
   |cons i r=>
    have:=Way.end_lt h3 F i (List.mem_cons_self ..)
    have:=Way.rise h3 F i (List.mem_cons_self ..)
    omega
  ·exact Way.end_lt h3 F k h
theorem Nx.step (h:Nx n e nx) (hv:v<n) (hlt:dK nx v<((row e v).length:Int)):Nx n e (nx.set v (dK nx v+1)):=
 ⟨by simpa using h.len,fun u F=>by
  rw [jQ (by rw [h.len];exact hv)];have:=h.rng v hv
  split
  ·rename_i e';subst e';omega
  ·exact h.rng u F⟩
theorem Past.step (h:Past n e t f L nx) (hx:Nx n e nx) (hv:v<n) (hlt:dK nx v<((row e v).length:Int)) (hd:∀ k:Nat,(row e v)[(dK nx v).toNat]? =some (k:Int)→Good e f L k→Dead e t nx (kto e k)):
  Past n e t f L (nx.set v (dK nx v+1)):=by
 have G:∀ u,dK (nx.set v (dK nx v+1)) u=if v=u then dK nx v+1 else dK nx u:=fun u=>jQ (by rw [hx.len];exact hv) _ u
 have D:∀ u,Dead e t nx u→Dead e t (nx.set v (dK nx v+1)) u:=fun u ⟨a,b⟩=>⟨by rw [G,if_neg (fun e' =>by subst e';omega)];exact a,b⟩
 intro u F j k hj hk hg;refine D _ ?_;rw [G] at hj
 split at hj
 ·rename_i e'
  subst e'
  by_cases h1:(j:Int)<dK nx v
  ·exact h v hv j k h1 hk hg
  ·have:=hx.rng v hv
   have:(dK nx v).toNat=j:=aA
   exact hd k (by rw [this];exact hk) hg
 ·exact h u F j k hj hk hg
theorem Wy.pass (h:Wy n e s f L nx W v) (hv:v<n) (hlt:dK nx v<((row e v).length:Int)):Wy n e s f L (nx.set v (dK nx v+1)) W v:=
 ⟨h.way,h.good,fun k hk=>by
  have:=h.way.end_lt h.up k hk
  rw [jQ (by rw [h.nx.len];exact hv),if_neg (fun e' =>by rw [← e'] at this;omega)]
  exact h.cur k hk,h.nx.step hv hlt⟩
theorem Wy.on {k:Nat} (h:Wy n e s f L nx W v) (hk:k<2*e.length) (hf:dP e k=v) (hr:(row e v)[(dK nx v).toNat]? =some (k:Int)) (hg:Good e f L k):Wy n e s f L nx (W++[k]) (kto e k):=
 ⟨h.way.snoc hk hf,fun j hj=>by
  rcases List.mem_append.1 hj with hj|hj
  ·exact h.good j hj
  ·simp at hj;subst hj;exact hg,fun j hj=>by
  rcases List.mem_append.1 hj with hj|hj
  ·exact h.cur j hj
  ·simp at hj;subst hj;rw [hf];exact hr,h.nx⟩
theorem Wy.back {k:Nat} (h:Wy n e s f L nx (W++[k]) v):k<2*e.length∧kto e k=v∧Wy n e s f L nx W (dP e k):=
 let ⟨a,b,c⟩:=h.way.pop
 ⟨a,b,c,fun j hj=>h.good j (List.mem_append_left _ hj),fun j hj=>h.cur j (List.mem_append_left _ hj),h.nx⟩
theorem Wy.lt {k:Nat} (h:Wy n e s f L nx (W++[k]) v):dK nx (dP e k)<((row e (dP e k)).length:Int):=by
 have:=h.cur k aN
 have h1:=(List.getElem?_eq_some_iff.1 this).1
 omega
theorem no_dead (h:Lay n e s f L) (he:mO n e) (hx:Nx n e nx) (hp:Past n e t f L nx) (hd:Dead e t nx s):∀ (m:Nat) (v:Nat),v<n→dK L v=(m:Int)→Dead e t nx v
 |0,v,hv,hm=>by
  by_cases F:v=s
  ·subst F;exact hd
  ·obtain ⟨k,a,b,c,d,g⟩:=h.pred v hv aA F;omega
 |m+1,v,hv,hm=>by
  by_cases F:v=s
  ·subst F;exact hd
  ·obtain ⟨k,a,b,c,d,g⟩:=h.pred v hv aA F
   have hk:=no_dead h he hx hp hd m (dP e k) (nM he a) aA
   obtain ⟨j,hj,J⟩:=List.mem_iff_getElem.1 (kRow_has (e:=e) a)
   rw [← c];exact hp (dP e k) (nM he a) j k (by rw [hk.1];exact_mod_cast hj) (by rw [List.getElem?_eq_getElem hj,J]) ⟨b,by rw [c];exact g⟩
theorem way_there (h:Lay n e s f L) (he:mO n e) (F:t<n) (J:0≤dK L t) (hx:Nx n e nx) (hp:Past n e t f L nx) (hd:Dead e t nx s):False:=
 (no_dead h he hx hp hd (dK L t).toNat t F aA).2 rfl
theorem Past.start (n:Nat) (e:List Arc) (t:Nat) (f L:List Int):Past n e t f L (List.replicate n 0):=fun v hv j k hj _ _=>by rw [flAt_zero] at hj;omega
theorem Nx.start (n:Nat) (e:List Arc):Nx n e (List.replicate n 0):=⟨aN,fun v hv=>by rw [flAt_zero];omega⟩
def remN (n:Nat) (e:List Arc) (nx:List Int):Int:=i7 (fun v=>((row e v).length:Int) - dK nx v) n
theorem remN_step (h:Nx n e nx) (hv:v<n):remN n e (nx.set v (dK nx v+1))=remN n e nx - 1:=by
 unfold remN
 have:i7 (fun u=>((row e u).length:Int) - dK (nx.set v (dK nx v+1)) u) n=i7 (fun u=>(((row e u).length:Int) - dK nx u) - (if v=u then 1 else 0)) n:=sumTo_congr fun u F=>by
  rw [jQ (by rw [h.len];exact hv)]
  split
  ·rename_i e';subst e';omega
  ·omega
 rw [this,sumTo_sub,oZ,if_pos hv]
theorem sumTo_nn {g:Nat→Int}:∀ {n},(∀ v,v<n→0≤g v)→0≤i7 g n
 |0,_=>Int.le_refl _
 |n+1,h=>by have:=sumTo_nn (n:=n) fun v hv=>h v aA;have:=h n aA;simp only [i7];omega
theorem remN_nn (h:Nx n e nx):0≤remN n e nx:=sumTo_nn fun v hv=>by have:=h.rng v hv;omega
def topL:List Int→Nat
 |[]=>0
 |x::r=>x.toNat+topL r
theorem topL_ge:∀ (L:List Int) (v:Nat),dK L v≤(topL L:Int)
 |[],v=>by simp [dK,topL]
 |x::r,0=>by simp [dK,topL];omega
 |x::r,v+1=>by have:=topL_ge r v;simp [dK,topL] at this ⊢;omega
def oW (n:Nat) (e:List Arc) (L nx:List Int) (v:Nat):Nat:=(remN n e nx).toNat*(topL L+3)+(topL L+1 - dK L v).toNat
theorem wayMu_on {k:Nat} (hg:Good e f L k) (hf:dP e k=v) (h:Nx n e nx):oW n e L nx (kto e k)<oW n e L nx v:=by
 unfold oW
 have:=topL_ge L (kto e k)
 have:=hg.2
 rw [hf] at this;omega
theorem wayMu_pass {u:Nat} (h:Nx n e nx) (hv:v<n) (hlt:dK nx v<((row e v).length:Int)) (F: -1≤dK L u) (w:Nat):oW n e L (nx.set v (dK nx v+1)) u<oW n e L nx w:=by
 unfold oW
 have h1:=remN_step h hv
 have h2:=remN_nn (h.step hv hlt)
 have e1:(remN n e nx).toNat=(remN n e (nx.set v (dK nx v+1))).toNat+1:=aA
 rw [e1,Nat.add_mul];have:=topL_ge L w
 omega
end Go.Proofs.YthpkelafioikaaaGreat
namespace Go.Proofs.YthpkelafioikaaaGreat
open Go Go.RowKit Fly
set_option maxRecDepth 100000
set_option maxHeartbeats 4000000
set_option linter.all false
structure NOk (n:Nat) (e:List Arc):Prop where
 n1:1≤n∧n≤1024
 len:e.length≤16384
 good:∀ k (hk:k<e.length),0≤e[k].src∧e[k].src<(n:Int)∧0≤e[k].dst∧e[k].dst<(n:Int)
 ok:∀ x∈e,eK x
theorem NOk.net {n:Nat} {e:List Arc} (h:NOk n e):mO n e:=fun x hx=>by
 obtain ⟨j,hj,rfl⟩:=List.mem_iff_getElem.1 hx
 have:=h.good j hj;omega
theorem NOk.at_ {n:Nat} {e:List Arc} (h:NOk n e) {i:Nat} (hi:i<e.length):0≤(eQ e i).src∧(eQ e i).src<(n:Int)∧0≤(eQ e i).dst∧(eQ e i).dst<(n:Int)∧0≤(eQ e i).wt∧(eQ e i).wt≤4294967295:=by
 have:=h.good i hi
 have:=(h.ok _ (List.getElem_mem hi)).wt
 rw [pZ hi];omega
def ecs (p:Arc×Int):List Value:=[.int .i64 p.1.src,.int .i64 p.1.dst,.int .u32 (p.1.wt - p.2),.int .u32 p.2]
theorem ecs_len (p:Arc×Int):(ecs p).length=4:=rfl
def gY (e:List Arc) (f:List Int):List Value:=(List.zip e f).flatMap ecs
theorem zip_at {e:List Arc} {f:List Int} {i:Nat} (h:f.length=e.length) (hi:i<e.length):∃ h' :i<(List.zip e f).length,(List.zip e f)[i]=(eQ e i,dK f i):=
 ⟨by simp;omega,by rw [List.getElem_zip,pZ hi,flAt_eq aA]⟩
theorem ecells_at {e:List Arc} {f:List Int} {i j:Nat} (h:f.length=e.length) (hi:i<e.length) (hj:j<4):(gY e f)[i*4+j]? =(ecs (eQ e i,dK f i))[j]? :=by
 obtain ⟨h',he⟩:=zip_at h hi
 unfold gY
 rw [iV ecs ecs_len _ i j h' hj,he]
theorem nR {e:List Arc} {f:List Int} (h:f.length=e.length):(gY e f).length=e.length*4:=by
 unfold gY;rw [dO ecs ecs_len];simp [h]
theorem ecells_to {n:Nat} {e:List Arc} {f:List Int} {k:Nat} (hn:NOk n e) (h:f.length=e.length) (hk:k<2*e.length):(gY e f)[k / 2*4+(1 - k % 2)]? =some (.int .i64 ((kto e k:Nat):Int)):=by
 rw [ecells_at h aA aA];have:=hn.at_ (i:=k / 2) aA
 unfold kto ecs
 by_cases h2:k % 2=0
 ·rw [if_pos h2,h2];simp;omega
 ·rw [if_neg h2,show k % 2=1 by omega];simp;omega
theorem ecells_left {e:List Arc} {f:List Int} {k:Nat} (h:f.length=e.length) (hk:k<2*e.length):(gY e f)[k / 2*4+2+k % 2]? =some (.int .u32 (fL e f k)):=by
 rw [Nat.add_assoc,ecells_at h aA aA]
 unfold fL ecs
 by_cases h2:k % 2=0
 ·rw [if_pos h2,h2];simp
 ·rw [if_neg h2,show k % 2=1 by omega];simp
theorem ecells_snoc {e:List Arc} {i:Nat} (h:i<e.length):gY (e.take (i+1)) (List.replicate (i+1) 0)=gY (e.take i) (List.replicate i 0)++[.int .i64 e[i].src,.int .i64 e[i].dst,.int .u32 e[i].wt,.int .u32 0]:=by
 unfold gY
 rw [List.take_succ_eq_append_getElem h,List.replicate_succ',List.zip_append (by simp;omega),List.flatMap_append];simp [ecs]
abbrev gR (ve:Value) (n bat bl bn:Nat):List Value:=[ve,.slice (some ⟨bat,0,none⟩) n n,.slice (some ⟨bl,0,none⟩) n n,.slice (some ⟨bn,0,none⟩) n n]
abbrev mA (bx bat bl bn n:Nat) (ve:Value) (vs:List Value) (G me:Seg) (L nx:List Int):List Seg:=
 [[(bx,blk (gR ve n bat bl bn) 290)],[(bat,blk vs 25)],G,me,[(bl,blk (bF L) 3)],[(bn,blk (bF nx) 3)]]
def DRep (n:Nat) (e:List Arc) (f L nx:List Int) (bx:Nat) (m:Seg):Prop:=
 ∃ bat bl bn ve vs ms me,m.Perm (mA bx bat bl bn n ve vs ms.flatten me L nx).flatten∧RowsI 3 (pO e n (2*e.length)) vs ms∧Own 301 4 ve e.length (gY e f) me
theorem DRep_mk {n:Nat} {e:List Arc} {f L nx:List Int} {bx bat bl bn:Nat} {ve:Value} {vs:List Value} {ms:List Seg} {me:Seg} (J:RowsI 3 (pO e n (2*e.length)) vs ms) (F:Own 301 4 ve e.length (gY e f) me):
  DRep n e f L nx bx (mA bx bat bl bn n ve vs ms.flatten me L nx).flatten:=⟨bat,bl,bn,ve,vs,ms,me,List.Perm.refl _,J,F⟩
theorem ints0 (n:Nat):(List.replicate n [Value.int .i64 0]).flatten=bF (List.replicate n 0):=by
 induction n with
 |zero=>rfl
 |succ n ih=>simp only [List.replicate_succ,List.flatten_cons,ih];rfl
theorem nils (n:Nat):(List.replicate n [Value.slice none 0 0]).flatten=List.replicate n (Value.slice none 0 0):=by
 induction n with
 |zero=>rfl
 |succ n ih=>simp only [List.replicate_succ,List.flatten_cons,ih];rfl
theorem lI {E:TypeId} {v:Value} {l:List Int} {x:Int} {m:Seg}:Own E 1 v (l.length+1) (bF l++[.int .i64 x]) m=Own E 1 v (l++[x]).length (bF (l++[x])) m:=by rw [eJ,List.length_append];rfl
theorem kfrom_even (e:List Arc) (i:Nat):dP e (2*i)=(eQ e i).src.toNat:=by unfold dP;rw [if_pos aA,show 2*i / 2=i by omega]
theorem kfrom_odd (e:List Arc) (i:Nat):dP e (2*i+1)=(eQ e i).dst.toNat:=by unfold dP;rw [if_neg aA,show (2*i+1) / 2=i by omega]
theorem shr_one {k:Nat} (h:k<4294967296):(k:Int).fdiv (2 ^ (min ((1:Int).toNat) IntKind.i64.bits))=((k / 2:Nat):Int):=by
 show (k:Int).fdiv 2=_
 rw [Int.fdiv_eq_ediv_of_nonneg _ (by decide)];omega
theorem to_spec (n:Nat) (e:List Arc) (f:List Int) (bx bat bl bn k cap:Nat) (A:Option Addr) (w:World) (hx:Ro (Fr w []) w (some ⟨bx,0,none⟩) (gR (.slice A e.length cap) n bat bl bn)) (he:Ro (Fr w []) w A (gY e f)) (hn:NOk n e) (hf:f.length=e.length) (hk:k<2*e.length):
    Meets Tryz.prog 198 [.pointer (some ⟨bx,0,none⟩),.int .i64 (k:Int)] w [] (fun u m=>u= .int .i64 ((kto e k:Nat):Int)∧m=[]):=by
 obtain ⟨b',o',e',O,F⟩:=hx aN
 obtain ⟨rfl,rfl⟩:bx=b'∧0=o' :=by cases e';exact ⟨rfl,rfl⟩
 obtain ⟨be,X,rfl,J,U⟩:=he (by intro Z;have:=nR hf;rw [Z] at this;simp at this;omega)
 have Y:=hn.len
 refine bE Tryz.func198 rfl Tryz.ntmps198 rfl Owns.nil<|aG fun kh1=>aB 1 rfl<|aD kh1<|aG fun kh2=>aB 1 rfl<|f_Q (dH rfl)<|cL qW rfl<|f_Q (aH Tryz.isAgg288 rfl (rdS O (F 0 _ rfl)))<|aB 1 rfl ?_
 refine f_Q (o_shr rfl rfl (by decide) ((k / 2:Nat):Int) (shr_one aA)) ?_;refine aB 1 rfl<|f_Q (o_and rfl rfl ((k % 2:Nat):Int) (and_one aA))<|f_Q (jC rfl rfl)<|f_Q (aL sl288 rfl rfl (X+k / 2*4))<|cL fa301_0 rfl<|f_Q (o_idxA ar237 rfl rfl (X+k / 2*4+(1 - k % 2)) ⟨aA,aA,mac_fo⟩)<|f_Q (aH Tryz.isAgg3 rfl (rdS J (by have:=U _ _ (ecells_to hn hf hk);rwa [← Nat.add_assoc] at this))) ?_
 refine aB 1 rfl<|aD kh2<|aY ?_
 exact bJ [] Tryz.results198 rfl aP ⟨rfl,rfl⟩
theorem left_spec (n:Nat) (e:List Arc) (f:List Int) (bx bat bl bn k cap:Nat) (A:Option Addr) (w:World) (hx:Ro (Fr w []) w (some ⟨bx,0,none⟩) (gR (.slice A e.length cap) n bat bl bn)) (he:Ro (Fr w []) w A (gY e f)) (hn:NOk n e) (hf:f.length=e.length) (hk:k<2*e.length):
    Meets Tryz.prog 193 [.pointer (some ⟨bx,0,none⟩),.int .i64 (k:Int)] w [] (fun u m=>u= .int .u32 (fL e f k)∧m=[]):=by
 obtain ⟨b',o',e',O,F⟩:=hx aN
 obtain ⟨rfl,rfl⟩:bx=b'∧0=o' :=by cases e';exact ⟨rfl,rfl⟩
 obtain ⟨be,X,rfl,J,U⟩:=he (by intro Z;have:=nR hf;rw [Z] at this;simp at this;omega)
 have Y:=hn.len
 refine bE Tryz.func193 rfl Tryz.ntmps193 rfl Owns.nil<|aG fun kh1=>aB 1 rfl<|aD kh1<|aG fun kh2=>aB 1 rfl<|f_Q (dH rfl)<|cL qW rfl<|f_Q (aH Tryz.isAgg288 rfl (rdS O (F 0 _ rfl)))<|aB 1 rfl ?_
 refine f_Q (o_shr rfl rfl (by decide) ((k / 2:Nat):Int) (shr_one aA)) ?_;refine aB 1 rfl<|f_Q (o_and rfl rfl ((k % 2:Nat):Int) (and_one aA))<|f_Q (aL sl288 rfl rfl (X+k / 2*4))<|cL fa301_1 rfl<|f_Q (o_idxA ar299 rfl rfl (X+k / 2*4+2+k % 2) ⟨aA,aA,mac_fo⟩)<|f_Q (aH Tryz.isAgg56 rfl (rdS J (by have:=U _ _ (ecells_left hf hk);rwa [← Nat.add_assoc,← Nat.add_assoc] at this))) ?_
 refine aB 1 rfl<|aD kh2<|aY ?_
 exact bJ [] Tryz.results193 rfl aP ⟨rfl,rfl⟩
theorem fbegin_spec (n:Nat) (A:Option Addr) (e:List Arc) (cap:Nat) (w:World) (hr:Ro (Fr w []) w A (e.flatMap bZ)) (hn:NOk n e):
    Meets Tryz.prog 177 [.agg #[.int .i64 (n:Int),.slice A e.length cap]] w [] (fun u own' =>∃ bx m,u= .pointer (some ⟨bx,0,none⟩)∧own' =[m]∧DRep n e (List.replicate e.length 0) (List.replicate n 0) (List.replicate n 0) bx m):=by
 have bj:=hn.n1
 have bi:=hn.len
 refine bE Tryz.func177 rfl Tryz.ntmps177 rfl Owns.nil<|aG fun kh1=>f_S (cT rfl rfl fun b1=>?_)
 refine aB 1 rfl<|aD kh1 ?_
 refine qZ (α:=Nat×Nat×Nat×Nat) [1] (fun ⟨bx,bat,bl,bn⟩=>[(3,.pointer (some ⟨bx,0,none⟩))]) (fun ⟨bx,bat,bl,bn⟩=>[[(bx,blk (gR (.slice none 0 0) n bat bl bn) 290)],[(bat,blk (List.replicate n (.slice none 0 0)) 25)],[(bl,blk (bF (List.replicate n 0)) 3)],[(bn,blk (bF (List.replicate n 0)) 3)],[(b1,blk [.int .i64 (n:Int),.slice A e.length cap] 265)]]) (fun ⟨bx,bat,bl,bn⟩=>True) ?_ ?_
 ·
  intro K2 aj;refine c7 [[(b1,blk [.int .i64 (n:Int),.slice A e.length cap] 265)]] rfl<|f_T 0 rfl (aT lR rfl)<|f_T 1 rfl (aH Tryz.isAgg3 rfl (rdA rfl))<|f_T 3 rfl (aT lR rfl)<|f_T 4 rfl (aH Tryz.isAgg3 rfl (rdA rfl))<|f_T 6 rfl (aT lR rfl)<|f_T 7 rfl (aH Tryz.isAgg3 rfl (rdA rfl))<|f_three 2 5 8 rfl rfl rfl aW rfl rfl rfl rfl rfl rfl rfl rfl rfl ?_ ?_ ?_
  ·
   refine (eZ el32 rfl rfl n rfl aA aA (List.replicate n (.slice none 0 0)) (nils n) fun b8=>⟨aC,?_⟩);refine gH 5 8 rfl rfl aW rfl rfl rfl rfl rfl rfl ?_ ?_
   ·
    refine (eZ eL rfl rfl n rfl aA aA (bF (List.replicate n 0)) (ints0 n) fun J=>⟨aC,?_⟩);refine f_O 8 rfl (eZ eL rfl rfl n rfl aA aA (bF (List.replicate n 0)) (ints0 n) fun F=>⟨aC,?_⟩);refine f_T 9 rfl (dL (cs:=gR (.slice none 0 0) n b8 J F) st290 rfl (by kernel_rfl)) ?_;refine f_O 10 rfl (cT rfl rfl fun aa=>⟨aC,?_⟩);refine f_O 11 rfl ((bI rfl).does ⟨aC,?_⟩);refine cU aW<|cS (aj _ _ (aa,b8,J,F) trivial ?_ ?_ ?_)
    · exact aF
    · exact aF
    · exact aC
   ·
    refine (eZ eL rfl rfl n rfl aA aA (bF (List.replicate n 0)) (ints0 n) fun F=>⟨aC,?_⟩);refine f_O 5 rfl (eZ eL rfl rfl n rfl aA aA (bF (List.replicate n 0)) (ints0 n) fun J=>⟨aC,?_⟩);refine f_T 9 rfl (dL (cs:=gR (.slice none 0 0) n b8 J F) st290 rfl (by kernel_rfl)) ?_;refine f_O 10 rfl (cT rfl rfl fun aa=>⟨aC,?_⟩);refine f_O 11 rfl ((bI rfl).does ⟨aC,?_⟩);refine cU aW<|cS (aj _ _ (aa,b8,J,F) trivial ?_ ?_ ?_)
    · exact aF
    · exact aF
    · exact aC
  ·
   refine (eZ eL rfl rfl n rfl aA aA (bF (List.replicate n 0)) (ints0 n) fun J=>⟨aC,?_⟩);refine gH 2 8 rfl rfl aW rfl rfl rfl rfl rfl rfl ?_ ?_
   ·
    refine (eZ el32 rfl rfl n rfl aA aA (List.replicate n (.slice none 0 0)) (nils n) fun b8=>⟨aC,?_⟩);refine f_O 8 rfl (eZ eL rfl rfl n rfl aA aA (bF (List.replicate n 0)) (ints0 n) fun F=>⟨aC,?_⟩);refine f_T 9 rfl (dL (cs:=gR (.slice none 0 0) n b8 J F) st290 rfl (by kernel_rfl)) ?_;refine f_O 10 rfl (cT rfl rfl fun aa=>⟨aC,?_⟩);refine f_O 11 rfl ((bI rfl).does ⟨aC,?_⟩);refine cU aW<|cS (aj _ _ (aa,b8,J,F) trivial ?_ ?_ ?_)
    · exact aF
    · exact aF
    · exact aC
   ·
    refine (eZ eL rfl rfl n rfl aA aA (bF (List.replicate n 0)) (ints0 n) fun F=>⟨aC,?_⟩);refine f_O 2 rfl (eZ el32 rfl rfl n rfl aA aA (List.replicate n (.slice none 0 0)) (nils n) fun b8=>⟨aC,?_⟩);refine f_T 9 rfl (dL (cs:=gR (.slice none 0 0) n b8 J F) st290 rfl (by kernel_rfl)) ?_;refine f_O 10 rfl (cT rfl rfl fun aa=>⟨aC,?_⟩);refine f_O 11 rfl ((bI rfl).does ⟨aC,?_⟩);refine cU aW<|cS (aj _ _ (aa,b8,J,F) trivial ?_ ?_ ?_)
    · exact aF
    · exact aF
    · exact aC
  ·
   refine (eZ eL rfl rfl n rfl aA aA (bF (List.replicate n 0)) (ints0 n) fun F=>⟨aC,?_⟩);refine gH 2 5 rfl rfl aW rfl rfl rfl rfl rfl rfl ?_ ?_
   ·
    refine (eZ el32 rfl rfl n rfl aA aA (List.replicate n (.slice none 0 0)) (nils n) fun b8=>⟨aC,?_⟩);refine f_O 5 rfl (eZ eL rfl rfl n rfl aA aA (bF (List.replicate n 0)) (ints0 n) fun J=>⟨aC,?_⟩);refine f_T 9 rfl (dL (cs:=gR (.slice none 0 0) n b8 J F) st290 rfl (by kernel_rfl)) ?_;refine f_O 10 rfl (cT rfl rfl fun aa=>⟨aC,?_⟩);refine f_O 11 rfl ((bI rfl).does ⟨aC,?_⟩);refine cU aW<|cS (aj _ _ (aa,b8,J,F) trivial ?_ ?_ ?_)
    · exact aF
    · exact aF
    · exact aC
   ·
    refine (eZ eL rfl rfl n rfl aA aA (bF (List.replicate n 0)) (ints0 n) fun J=>⟨aC,?_⟩);refine f_O 2 rfl (eZ el32 rfl rfl n rfl aA aA (List.replicate n (.slice none 0 0)) (nils n) fun b8=>⟨aC,?_⟩);refine f_T 9 rfl (dL (cs:=gR (.slice none 0 0) n b8 J F) st290 rfl (by kernel_rfl)) ?_;refine f_O 10 rfl (cT rfl rfl fun aa=>⟨aC,?_⟩);refine f_O 11 rfl ((bI rfl).does ⟨aC,?_⟩);refine cU aW<|cS (aj _ _ (aa,b8,J,F) trivial ?_ ?_ ?_)
    · exact aF
    · exact aF
    · exact aC
 ·
  rintro ⟨bx,bat,bl,bn⟩ _;refine aS fun kh3=>aG fun bf=>cL fa265_1 rfl<|cX Tryz.isAgg263 rfl (rdA rfl)<|dU sl263 rfl<|aB 1 rfl<|aD bf<|aR ?_
  refine dA (α:=Nat×Value×Seg×List Value×List Seg) [3,18,19] (fun ⟨i,ve,me,vs,ms⟩=>[(20,.int .i64 (i:Int))]) (fun ⟨i,ve,me,vs,ms⟩=>[[(bx,blk (gR ve n bat bl bn) 290)],me,[(bat,blk vs 25)],ms.flatten,[(bl,blk (bF (List.replicate n 0)) 3)],[(bn,blk (bF (List.replicate n 0)) 3)],[(b1,blk [.int .i64 (n:Int),.slice A e.length cap] 265)]]) (fun ⟨i,ve,me,vs,ms⟩=>i≤e.length∧Own 301 4 ve i (gY (e.take i) (List.replicate i 0)) me∧RowsI 3 (pO e n (2*i)) vs ms) (fun ⟨i,ve,me,vs,ms⟩=>e.length - i) (0,.slice none 0 0,[],List.replicate n (.slice none 0 0),List.replicate n []) ?_ ?_ ?_ ?_
  · exact aF
  · dsimp only
    rw [show (List.replicate n ([]:Seg)).flatten=[] from by simp];exact aC
  · exact ⟨Nat.zero_le _,Own.nil _ _,by rw [kRows_zero];exact RowsI.start _ n⟩
  ·
   rintro ⟨i,ve,me,vs,ms⟩ ⟨br,hE,hR⟩;refine fF (e:=[(20,_),(3,_),(18,_),(19,_)]) aF ?_;refine aG fun kh5=>aB 1 rfl<|aD kh5<|aS fun kh6=>aX rfl (fun ba=>?_) (fun ba=>?_)
   ·
    refine bV kh6<|aS fun kh7=>aR<|aG fun kh8=>aB 1 rfl ?_
    have hi:i<e.length:=aA
    obtain ⟨az,off,rfl,hS,hc⟩:=hr (eX bZ dD aA hi)
    have bq:=hn.good i hi
    have ap:=pZ hi
    have bg:dP e (2*i)<n:=by rw [kfrom_even,ap];omega
    have aw:dP e (2*i+1)<n:=by rw [kfrom_odd,ap];omega
    have bt:e[i].src=((dP e (2*i):Nat):Int):=by rw [kfrom_even,ap];omega
    have bk:e[i].dst=((dP e (2*i+1):Nat):Int):=by rw [kfrom_odd,ap];omega
    refine f_Q (aL sl263 rfl rfl (off+i*3))<|f_Q (aO (vs:=bZ e[i]) Tryz.isAgg267 Tryz.sizeOf267 rfl rfl (f8 dD hS hc hi))<|f_S (cQ Tryz.zeroValue267 rfl fun b5=>?_)
    refine aB 1 rfl<|f_Z (bP Tryz.sizeOf267 rfl rfl rfl rfl cF (bZ e[i]) rfl ?_)
    refine aD kh8 ?_;refine qZ (α:=Value×Seg) [3,4,5,18,19,20] (fun ⟨U,X⟩=>[]) (fun ⟨U,X⟩=>[[(bx,blk (gR U n bat bl bn) 290)],X,[(bat,blk vs 25)],ms.flatten,[(bl,blk (bF (List.replicate n 0)) 3)],[(bn,blk (bF (List.replicate n 0)) 3)],[(b5,blk (bZ e[i]) 267)],[(b1,blk [.int .i64 (n:Int),.slice (some ⟨az,off,none⟩) e.length cap] 265)]]) (fun ⟨U,X⟩=>Own 301 4 U (i+1) (gY (e.take i) (List.replicate i 0)++[.int .i64 e[i].src,.int .i64 e[i].dst,.int .u32 e[i].wt,.int .u32 0]) X) ?_ ?_
    ·
     intro K9 av;refine c7 [[(b5,blk (bZ e[i]) 267)]] rfl<|f_T 0 rfl (aU rfl)<|f_T 1 rfl (aU rfl)<|f_T 2 rfl (dH rfl)<|f_T 3 rfl (aT qW rfl)<|f_T 5 rfl (aT fa267_0 rfl)<|f_T 6 rfl (aH Tryz.isAgg3 rfl (rdA rfl))<|f_T 7 rfl (aT fa267_1 rfl)<|f_T 8 rfl (aH Tryz.isAgg3 rfl (rdA rfl))<|f_T 9 rfl (o_buildA (cs:=[.int .i64 e[i].src,.int .i64 e[i].dst]) ar237 rfl (by kernel_rfl)) ?_
     refine f_T 10 rfl (aT fa267_2 rfl)<|f_T 11 rfl (aH Tryz.isAgg56 rfl (rdA rfl))<|f_T 12 rfl (o_buildA (cs:=[.int .u32 e[i].wt,.int .u32 0]) ar299 rfl (by kernel_rfl)) ?_
     refine f_T 13 rfl (dL (cs:=[.int .i64 e[i].src,.int .i64 e[i].dst,.int .u32 e[i].wt,.int .u32 0]) st301 rfl (by kernel_rfl)) ?_;refine gH 4 14 rfl rfl aW rfl rfl rfl rfl rfl rfl ?_ ?_
     ·
      refine (aH Tryz.isAgg288 rfl (rdA rfl)).does ⟨aC,?_⟩;refine f_O 14 rfl (bQ el288 aA rfl rfl rfl fun bc=>⟨aC,?_⟩);refine f_O 15 rfl (dE el288 rfl rfl hE (ys:=[.int .i64 e[i].src,.int .i64 e[i].dst,.int .u32 e[i].wt,.int .u32 0]) ⟨(rdA rfl),(rdA rfl),(rdA rfl),(rdA rfl),trivial⟩ rfl rfl aA aA fun U X ah=>⟨aC,?_⟩);obtain ⟨ao,ac,rfl,_⟩:=ah.val
      refine f_T 16 rfl (dH rfl)<|f_T 17 rfl (aT qW rfl)<|fZ 18 rfl (bU Tryz.sizeOf288 rfl rfl rfl rfl cF (gR (.slice ao (i+1) ac) n bat bl bn) rfl ⟨aC,?_⟩)
      refine cU aW<|cS (av _ _ (.slice ao (i+1) ac,X) ah ?_ ?_ ?_)
      · exact aF
      · exact aF
      · exact aC
     ·
      refine (bQ el288 aA rfl rfl rfl fun bc=>⟨aC,?_⟩);refine f_O 4 rfl ((aH Tryz.isAgg288 rfl (rdA rfl)).does ⟨aC,?_⟩);refine f_O 15 rfl (dE el288 rfl rfl hE (ys:=[.int .i64 e[i].src,.int .i64 e[i].dst,.int .u32 e[i].wt,.int .u32 0]) ⟨(rdA rfl),(rdA rfl),(rdA rfl),(rdA rfl),trivial⟩ rfl rfl aA aA fun U X ah=>⟨aC,?_⟩);obtain ⟨ao,ac,rfl,_⟩:=ah.val
      refine f_T 16 rfl (dH rfl)<|f_T 17 rfl (aT qW rfl)<|fZ 18 rfl (bU Tryz.sizeOf288 rfl rfl rfl rfl cF (gR (.slice ao (i+1) ac) n bat bl bn) rfl ⟨aC,?_⟩)
      refine cU aW<|cS (av _ _ (.slice ao (i+1) ac,X) ah ?_ ?_ ?_)
      · exact aF
      · exact aF
      · exact aC
    ·
     rintro ⟨U,X⟩ ah;obtain ⟨rv,rm,rG,am,ae,ar,ab⟩:=hR.split (i:=dP e (2*i)) (by rw [kN];omega)
     rw [lH] at ae;have au:=kRow_len e (2*i) (dP e (2*i))
     obtain ⟨Ar,cr,rfl,bh⟩:=ae.val
     refine eP (Sub.splitF ar) ?_;refine qZ (α:=Value×Seg) [3,4,5,18,19,20] (fun ⟨ad,O⟩=>[]) (fun ⟨ad,O⟩=>[[(bx,blk (gR U n bat bl bn) 290)],X,[(bat,blk (vs.set (dP e (2*i)) ad) 25)],O,rG,[(bl,blk (bF (List.replicate n 0)) 3)],[(bn,blk (bF (List.replicate n 0)) 3)],[(b5,blk (bZ e[i]) 267)],[(b1,blk [.int .i64 (n:Int),.slice (some ⟨az,off,none⟩) e.length cap] 265)]]) (fun ⟨ad,O⟩=>Own 3 1 ad ((jJ e (2*i) (dP e (2*i))).length+1) (bF (jJ e (2*i) (dP e (2*i)))++[.int .i64 ((2*i:Nat):Int)]) O) ?_ ?_
     ·
      intro bp aq;refine c7 [[(bx,blk (gR U n bat bl bn) 290)],[(b5,blk (bZ e[i]) 267)]] rfl<|f_T 0 rfl (aU rfl)<|f_T 1 rfl (dH rfl)<|f_T 2 rfl (aT qV rfl)<|f_T 3 rfl (aH Tryz.isAgg32 rfl (rdA rfl))<|f_T 4 rfl (aT fa267_0 rfl)<|f_T 5 rfl (aH Tryz.isAgg3 rfl (rdA rfl))<|f_T 6 rfl (aU rfl)<|f_T 7 rfl (dH rfl)<|f_T 8 rfl (aT qV rfl) ?_
      refine f_T 9 rfl (aH Tryz.isAgg32 rfl (rdA rfl))<|f_T 10 rfl (aT fa267_0 rfl)<|f_T 11 rfl (aH Tryz.isAgg3 rfl (rdA rfl))<|f_T 12 rfl (aL gL rfl rfl (dP e (2*i)))<|f_T 14 rfl (aU rfl)<|f_T 15 rfl (o_mul rfl rfl _ (show IntKind.i64.wrap (2*(i:Int))=((2*i:Nat):Int) from by rw [d7 aA];omega)) ?_
      refine gH 13 16 rfl rfl aW rfl rfl rfl rfl rfl rfl ?_ ?_
      ·
       refine (aH Tryz.isAgg25 rfl (rdA am)).does ⟨aC,?_⟩;refine f_O 16 rfl (bQ eL aA rfl rfl rfl fun be=>⟨aC,?_⟩);refine f_O 17 rfl (dE eL rfl rfl ae (ys:=[.int .i64 ((2*i:Nat):Int)]) ⟨(rdA rfl),trivial⟩ rfl rfl aA aA fun ad O ag=>⟨aC,?_⟩);obtain ⟨an,Z,rfl,_⟩:=ag.val
       refine f_T 18 rfl (aL gL rfl rfl (dP e (2*i)))<|fZ 19 rfl (bU Tryz.sizeOf25 rfl rfl rfl rfl (by have:=hR.lv;rw [kN] at this;omega) (vs.set (dP e (2*i)) (.slice an ((jJ e (2*i) (dP e (2*i))).length+1) Z)) rfl ⟨aC,?_⟩)
       refine cU aW<|cS (aq _ _ (.slice an ((jJ e (2*i) (dP e (2*i))).length+1) Z,O) ag ?_ ?_ ?_)
       · exact aF
       · exact aF
       · exact aC
      ·
       refine (bQ eL aA rfl rfl rfl fun be=>⟨aC,?_⟩);refine f_O 13 rfl ((aH Tryz.isAgg25 rfl (rdA am)).does ⟨aC,?_⟩);refine f_O 17 rfl (dE eL rfl rfl ae (ys:=[.int .i64 ((2*i:Nat):Int)]) ⟨(rdA rfl),trivial⟩ rfl rfl aA aA fun ad O ag=>⟨aC,?_⟩);obtain ⟨an,Z,rfl,_⟩:=ag.val
       refine f_T 18 rfl (aL gL rfl rfl (dP e (2*i)))<|fZ 19 rfl (bU Tryz.sizeOf25 rfl rfl rfl rfl (by have:=hR.lv;rw [kN] at this;omega) (vs.set (dP e (2*i)) (.slice an ((jJ e (2*i) (dP e (2*i))).length+1) Z)) rfl ⟨aC,?_⟩)
       refine cU aW<|cS (aq _ _ (.slice an ((jJ e (2*i) (dP e (2*i))).length+1) Z,O) ag ?_ ?_ ?_)
       · exact aF
       · exact aF
       · exact aC
     ·
      rintro ⟨ad,O⟩ ag;have ax:=(ab _ _ _ (by rw [← lI];exact ag)).1
      rw [kRows_next bg] at ax;refine eP (Sub.joinF (m:=O) (G' :=rG) (ab _ _ _ (by rw [← lI];exact ag)).2) ?_;obtain ⟨rv,rm,rG,am,ae,ar,ab⟩:=ax.split (i:=dP e (2*i+1)) (by rw [kN];omega)
      rw [lH] at ae;have au:=kRow_len e (2*i+1) (dP e (2*i+1))
      obtain ⟨Ar,cr,rfl,bh⟩:=ae.val
      refine eP (Sub.splitF ar)<|c7 [[(bx,blk (gR U n bat bl bn) 290)],[(b5,blk (bZ e[i]) 267)]] rfl<|f_T 0 rfl (aU rfl)<|f_T 1 rfl (dH rfl)<|f_T 2 rfl (aT qV rfl)<|f_T 3 rfl (aH Tryz.isAgg32 rfl (rdA rfl))<|f_T 4 rfl (aT fa267_1 rfl)<|f_T 5 rfl (aH Tryz.isAgg3 rfl (rdA rfl))<|f_T 6 rfl (aU rfl)<|f_T 7 rfl (dH rfl) ?_;refine f_T 8 rfl (aT qV rfl)<|f_T 9 rfl (aH Tryz.isAgg32 rfl (rdA rfl))<|f_T 10 rfl (aT fa267_1 rfl)<|f_T 11 rfl (aH Tryz.isAgg3 rfl (rdA rfl))<|f_T 12 rfl (aL gL rfl rfl (dP e (2*i+1)))<|f_T 14 rfl (aU rfl)<|f_T 15 rfl (o_mul rfl rfl _ (show IntKind.i64.wrap (2*(i:Int))=((2*i:Nat):Int) from by rw [d7 aA];omega)) ?_
      refine f_T 16 rfl (lA rfl rfl _ (show IntKind.i64.wrap (((2*i:Nat):Int)+1)=((2*i+1:Nat):Int) from by rw [d7 aA];omega)) ?_;refine gH 13 17 rfl rfl aW rfl rfl rfl rfl rfl rfl ?_ ?_
      ·
       refine (aH Tryz.isAgg25 rfl (rdA am)).does ⟨aC,?_⟩;refine f_O 17 rfl (bQ eL aA rfl rfl rfl fun a2=>⟨aC,?_⟩);refine f_O 18 rfl (dE eL rfl rfl ae (ys:=[.int .i64 ((2*i+1:Nat):Int)]) ⟨(rdA rfl),trivial⟩ rfl rfl aA aA fun a1 al ai=>⟨aC,?_⟩);obtain ⟨ak,Y,rfl,_⟩:=ai.val
       refine f_T 19 rfl (aL gL rfl rfl (dP e (2*i+1)))<|fZ 20 rfl (bU Tryz.sizeOf25 rfl rfl rfl rfl (by have:=hR.lv;rw [kN] at this;rw [List.length_set];omega) ((vs.set (dP e (2*i)) ad).set (dP e (2*i+1)) (.slice ak ((jJ e (2*i+1) (dP e (2*i+1))).length+1) Y)) rfl ⟨aC,?_⟩)
       refine cU aW<|dF<|bO kh7<|aI<|f_Q (a8 rfl rfl)<|aB 1 rfl<|aZ<|f9 (Sub.joinF (m:=al) (G' :=rG) (ab _ _ _ (by rw [← lI];exact ai)).2) ?_
       refine cS (a6 (i+1,U,X,(vs.set (dP e (2*i)) ad).set (dP e (2*i+1)) (.slice ak ((jJ e (2*i+1) (dP e (2*i+1))).length+1) Y),(ms.set (dP e (2*i)) O).set (dP e (2*i+1)) al) (by first|omega|(dsimp only;omega)|(simp;omega)) ⟨aA,by rw [ecells_snoc hi];exact ah,by
         have:=(ab _ _ _ (by rw [← lI];exact ai)).1
         rw [kRows_next aw] at this;exact this⟩ ?_ ?_ ?_)
       · exact aF
       · exact aF
       · exact aC
      ·
       refine (bQ eL aA rfl rfl rfl fun a2=>⟨aC,?_⟩);refine f_O 13 rfl ((aH Tryz.isAgg25 rfl (rdA am)).does ⟨aC,?_⟩);refine f_O 18 rfl (dE eL rfl rfl ae (ys:=[.int .i64 ((2*i+1:Nat):Int)]) ⟨(rdA rfl),trivial⟩ rfl rfl aA aA fun a1 al ai=>⟨aC,?_⟩);obtain ⟨ak,Y,rfl,_⟩:=ai.val
       refine f_T 19 rfl (aL gL rfl rfl (dP e (2*i+1)))<|fZ 20 rfl (bU Tryz.sizeOf25 rfl rfl rfl rfl (by have:=hR.lv;rw [kN] at this;rw [List.length_set];omega) ((vs.set (dP e (2*i)) ad).set (dP e (2*i+1)) (.slice ak ((jJ e (2*i+1) (dP e (2*i+1))).length+1) Y)) rfl ⟨aC,?_⟩)
       refine cU aW<|dF<|bO kh7<|aI<|f_Q (a8 rfl rfl)<|aB 1 rfl<|aZ<|f9 (Sub.joinF (m:=al) (G' :=rG) (ab _ _ _ (by rw [← lI];exact ai)).2) ?_
       refine cS (a6 (i+1,U,X,(vs.set (dP e (2*i)) ad).set (dP e (2*i+1)) (.slice ak ((jJ e (2*i+1) (dP e (2*i+1))).length+1) Y),(ms.set (dP e (2*i)) O).set (dP e (2*i+1)) al) (by first|omega|(dsimp only;omega)|(simp;omega)) ⟨aA,by rw [ecells_snoc hi];exact ah,by
         have:=(ab _ _ _ (by rw [← lI];exact ai)).1
         rw [kRows_next aw] at this;exact this⟩ ?_ ?_ ?_)
       · exact aF
       · exact aF
       · exact aC
   ·
    refine cN<|cO<|cO<|eC<|bO kh3<|aG fun kh11=>aB 2 rfl<|aD kh11<|aY ?_
    have ay:i=e.length:=aA
    subst ay;rw [List.take_length] at hE;exact bJ [(mA bx bat bl bn n ve vs ms.flatten me (List.replicate n 0) (List.replicate n 0)).flatten] Tryz.results177 rfl (Sub.flatF (by unfold mA;repeat (first|exact aP|refine aM ?_|refine cE rfl ?_))) ⟨bx,_,rfl,rfl,DRep_mk hR hE⟩
def nI (W:List Nat):List Int:=W.map (fun i:Nat=>(i:Int))
theorem nI_len (W:List Nat):(bF (nI W)).length=W.length:=by simp [nI,bF]
theorem nI_snoc (W:List Nat) (k:Nat):bF (nI (W++[k]))=bF (nI W)++[.int .i64 (k:Int)]:=by simp [nI,bF]
theorem kV {l:List Int} {i:Nat} (h:i<l.length):(bF l)[i]? =some (.int .i64 (dK l i)):=by rw [eG h,flAt_eq h]
theorem pP (l:List Int) (i:Nat) (x:Int):(bF l).set i (.int .i64 x)=bF (l.set i x):=by simp [bF,List.map_set]
def mixL (k:Nat) (x:Int) (l:List Int):List Int:=List.replicate k x++l.drop k
theorem mixL_len {k:Nat} {x:Int} {l:List Int} (h:k≤l.length):(mixL k x l).length=l.length:=by simp [mixL];omega
theorem mixL_set {k:Nat} {x:Int} {l:List Int} (h:k<l.length):(bF (mixL k x l)).set k (.int .i64 x)=bF (mixL (k+1) x l):=by
 rw [pP]
 congr 1
 unfold mixL
 rw [List.drop_eq_getElem_cons h,List.set_append_right _ _ aN,show k - (List.replicate k x).length=0 by simp,List.set_cons_zero,List.replicate_succ',List.append_assoc]
 rfl
theorem mixL_all {k:Nat} {x:Int} {l:List Int} (h:k=l.length):mixL k x l=List.replicate l.length x:=by subst h;simp [mixL]
theorem unl_rep (n:Nat):unl (List.replicate n (-1))=n:=by
 induction n with
 |zero=>rfl
 |succ n ih=>rw [List.replicate_succ];unfold unl at ih ⊢;rw [List.countP_cons,ih];simp
theorem unl_begin {n s:Nat} (hs:s<n):unl ((List.replicate n (-1)).set s 0)+1=n:=by
 rw [unl_set (by simpa using hs) (by rw [flAt_rep hs];decide) (Int.le_refl _),unl_rep]
theorem take_nextI {l:List Int} {j:Nat} {x:Int} (hj:j<l.length) (h:x∈l.take (j+1)):x∈l.take j∨x=l[j]:=by
 rw [List.take_succ_eq_append_getElem hj] at h
 rcases List.mem_append.1 h with h|h
 ·exact .inl h
 ·exact .inr (by simpa using h)
theorem layers_spec (n:Nat) (e:List Arc) (f L nx:List Int) (bx:Nat) (m:Seg) (s t:Nat) (w:World) (hn:NOk n e) (hf:Fits e f) (hL:L.length=n) (hx:nx.length=n) (hS:DRep n e f L nx bx m) (hs:s<n) (ht:t<n) (hw:Owns w [m]):
    Meets Tryz.prog 191 [.pointer (some ⟨bx,0,none⟩),.int .i64 (s:Int),.int .i64 (t:Int)] w [m] (fun u own' =>∃ L' m',own' =[m']∧DRep n e f L' (List.replicate n 0) bx m'∧Lay n e s f L'∧u= .bool (decide (0≤dK L' t))):=by
 have bq:=hn.n1
 have be:=hn.len
 refine bE Tryz.func191 rfl Tryz.ntmps191 rfl hw ?_;obtain ⟨bat,bl,bn,ve,vs,ms,me,av,hR,hE⟩:=hS
 obtain ⟨A,cap,rfl,_⟩:=hE.val
 refine eP (Sub.permF av) ?_
 unfold mA
 refine aG fun kh1=>aB 1 rfl<|aD kh1<|aS fun kh2=>aG fun ax=>aB 1 rfl<|f_Q (dH rfl)<|cL lQ rfl<|cX Tryz.isAgg25 rfl (rdA rfl)<|dU bX rfl ?_
 refine aB 1 rfl<|aD ax<|aR ?_
 refine dA (α:=Nat) [0,1,2,17] (fun k=>[(18,.int .i64 (k:Int))]) (fun k=>[[(bx,blk (gR (.slice A e.length cap) n bat bl bn) 290)],[(bat,blk vs 25)],ms.flatten,me,[(bl,blk (bF (mixL k (-1) L)) 3)],[(bn,blk (bF (mixL k 0 nx)) 3)]]) (fun k=>k≤n) (fun k=>n - k) (0) ?_ ?_ ?_ ?_
 · exact aF
 · exact aC
 · exact Nat.zero_le _
 ·
  rintro k bt;refine aG fun kh4=>aB 1 rfl<|aD kh4<|aS fun kh5=>aX rfl (fun ba=>?_) (fun ba=>?_)
  ·
   refine bV kh5<|aS fun kh6=>aR<|aG fun kh7=>aB 2 rfl<|aD kh7<|c7 [[(bx,blk (gR (.slice A e.length cap) n bat bl bn) 290)]] rfl ?_
   have hk:k<n:=aA
   refine f_T 0 rfl (aU rfl)<|f_T 1 rfl (dH rfl)<|f_T 2 rfl (aT lQ rfl)<|f_T 3 rfl (aH Tryz.isAgg25 rfl (rdA rfl))<|f_T 4 rfl (aU rfl)<|f_T 5 rfl (aU rfl)<|f_T 6 rfl (dH rfl)<|f_T 7 rfl (aT fa290_3 rfl)<|f_T 8 rfl (aH Tryz.isAgg25 rfl (rdA rfl))<|f_T 9 rfl (aU rfl) ?_
   refine f_T 10 rfl (aL bX rfl rfl (k))<|fZ 11 rfl (bU Tryz.sizeOf3 rfl rfl rfl rfl (by rw [a7,mixL_len aA];omega) (bF (mixL (k+1) (-1) L)) (mixL_set aA) ⟨aC,?_⟩)
   refine f_T 12 rfl (aL bX rfl rfl (k))<|fZ 13 rfl (bU Tryz.sizeOf3 rfl rfl rfl rfl (by rw [a7,mixL_len aA];omega) (bF (mixL (k+1) 0 nx)) (mixL_set aA) ⟨aC,?_⟩)
   refine cU aW<|dF<|bO kh6<|aI<|f_Q (a8 rfl rfl)<|aB 1 rfl<|aZ ?_
   refine cS (a6 (k+1) (by first|omega|(dsimp only;omega)|(simp;omega)) aA ?_ ?_ ?_)
   · exact aF
   · exact aF
   · exact aC
  ·
   refine cN<|cO<|cO<|eC<|bO kh2<|aG fun kh8=>aB 1 rfl<|f_Q (dH rfl)<|cL lQ rfl<|cX Tryz.isAgg25 rfl (rdA rfl) ?_
   refine aB 1 rfl<|f_Q (aL bX rfl rfl (s))<|f_Z (bU Tryz.sizeOf3 rfl rfl rfl rfl (by rw [a7,mixL_len aA];omega) (bF ((List.replicate n (-1)).set s 0)) (by rw [mixL_all aA,hL];exact pP ..) ?_)
   refine aD kh8<|aG fun kh9=>aB 1 rfl<|f_S (bQ eL aA rfl rfl rfl fun b41=>?_)
   refine aB 1 rfl<|aD kh9<|aS fun kh10=>aR ?_
   have ap:mixL k 0 nx=List.replicate n 0:=by rw [mixL_all aA,hx]
   rw [ap];refine dA (α:=List Int×List Nat×Value×Seg) [0,2] (fun ⟨L2,work,wv,wm⟩=>[(8,wv)]) (fun ⟨L2,work,wv,wm⟩=>[[(bx,blk (gR (.slice A e.length cap) n bat bl bn) 290)],[(bat,blk vs 25)],ms.flatten,me,[(bl,blk (bF L2) 3)],[(bn,blk (bF (List.replicate n 0)) 3)],wm]) (fun ⟨L2,work,wv,wm⟩=>LayB n e s f L2 work (fun _=>True)∧OwnQ 3 wv (bF (nI work)) wm∧unl L2+work.length≤n∧∀ u,u<n→dK L2 u+unl L2≤n) (fun ⟨L2,work,wv,wm⟩=>2*unl L2+work.length) ((List.replicate n (-1)).set s 0,[s],.slice (some ⟨b41,0,none⟩) 1 1,[(b41,blk [.int .i64 (s:Int)] 3)]) ?_ ?_ ?_ ?_
   · exact aF
   · exact aC
   · exact ⟨LayB.begin hn.net hs,OwnQ.one _ _ _,by have:=unl_begin hs;simp;omega,fun u hu=>by
     have:=unl_begin hs
     rw [jQ (by simpa using hs),flAt_rep hu]
     split<;>omega⟩
   ·
    rintro ⟨L2,work,wv,wm⟩ ⟨hB,F,hU,hM⟩;have ay:=F
    have ak:=nI_len work
    obtain ⟨bw,ow,cw,pre,sp,rfl,rfl,bf,bv,bh,a2⟩:=F
    refine fF (e:=[(8,_),(0,_),(2,_)]) aF ?_;refine aS fun am=>aG fun kh12=>aB 1 rfl<|dU bX rfl<|aB 1 rfl<|aD kh12<|aX rfl (fun c44=>?_) (fun c44=>?_)
    ·
     obtain ⟨v,rest,rfl⟩:∃ v rest,work=v::rest:=by
       cases work with
       |nil=>have h0:(bF (nI [])).length=0:=rfl;omega
       |cons v rest=>exact ⟨v,rest,rfl⟩
     have ac:=hB.wk v (List.mem_cons_self ..)
     have an:=a2 (by simp at ak;omega)
     refine bV am<|aR<|aG fun kh13=>aB 1 rfl<|f_Q (aL bX rfl rfl (ow))<|f_Q (aH Tryz.isAgg3 rfl (rdA (v:= .int .i64 (v:Int)) (by rw [← an];simp [nI,bF]))) ?_
     refine aB 1 rfl<|aD kh13<|aG fun kh14=>aB 1 rfl<|f_Q (f7 bX rfl rfl rfl rfl (fun h=>by cases h) 1 _ _ (.inr ⟨_,_,rfl,aA⟩) (.inl ⟨rfl,rfl⟩) (.inl ⟨rfl,rfl⟩) ⟨aA,aA,aA⟩ _ rfl) ?_
     refine aB 1 rfl<|aD kh14<|aS fun kh15=>?_
     obtain ⟨rv,rm,rG,a1,ag,al,_⟩:=hR.split (i:=v) (by rw [kN];exact ac.1)
     rw [lH] at ag;have aq:=kRow_len e (2*e.length) v
     obtain ⟨Ar,cr,rfl,bp⟩:=ag.val
     refine eP (Sub.splitF al)<|aI<|aB 1 rfl<|f_Q (dH rfl)<|cL qV rfl<|cX Tryz.isAgg32 rfl (rdA rfl)<|aB 1 rfl<|f_Q (aL gL rfl rfl (v))<|f_Q (aH Tryz.isAgg25 rfl (rdA a1))<|dU bX rfl ?_
     refine aB 1 rfl<|aD kh15<|aR ?_
     refine dA (α:=Nat×List Int×List Nat×Value×Seg) [0,2,9,56,57] (fun ⟨j,J,wk,U,O⟩=>[(58,.int .i64 (j:Int)),(8,U)]) (fun ⟨j,J,wk,U,O⟩=>[[(bx,blk (gR (.slice A e.length cap) n bat bl bn) 290)],[(bat,blk vs 25)],rm,rG,me,[(bl,blk (bF J) 3)],[(bn,blk (bF (List.replicate n 0)) 3)],O]) (fun ⟨j,J,wk,U,O⟩=>j≤(jJ e (2*e.length) v).length∧LayB n e s f J wk (fun k=>dP e k≠v∨(k:Int)∈(jJ e (2*e.length) v).take j)∧0≤dK J v∧OwnQ 3 U (bF (nI wk)) O∧(unl J+wk.length≤n∧∀ u,u<n→dK J u+unl J≤n)∧2*unl J+wk.length≤2*unl L2+rest.length) (fun ⟨j,J,wk,U,O⟩=>(jJ e (2*e.length) v).length - j) (0,L2,rest,.slice (if cw=1 then some ⟨bw,ow,none⟩ else (some ⟨bw,ow,none⟩:Option Addr).map (·.add (1*1))) ((bF (nI (v::rest))).length - 1) (cw - 1),[(bw,blk (pre++(bF (nI (v::rest))++sp)) 3)]) ?_ ?_ ?_ ?_
     · exact aF
     · exact aC
     · exact ⟨Nat.zero_le _,hB.pop.weaken fun k _ h=>by
       rcases h with h|h
       · exact h
       · simp at h,ac.2,OwnQ.tail (x:= .int .i64 (v:Int)) (cs:=bF (nI rest)) ay,⟨by simp only [List.length_cons] at hU;omega,hM⟩,Nat.le_refl _⟩
     ·
      rintro ⟨j,J,wk,U,O⟩ ⟨bj,Y,ah,ad,⟨ai,X⟩,ae⟩;have bg:=Y.len
      have bc:=nI_len wk
      refine fF (e:=[(58,_),(8,_),(0,_),(2,_),(9,_),(56,_),(57,_)]) aF ?_;refine aG fun kh16=>aB 1 rfl<|aD kh16<|aS fun kh17=>aX rfl (fun ar=>?_) (fun ar=>?_)
      ·
       refine bV kh17<|aS fun kh18=>aR<|aG fun kh19=>?_
       have hj:j<(jJ e (2*e.length) v).length:=aA
       obtain ⟨br,sr,rfl,rfl⟩:=ag.at_ aA
       obtain ⟨k,ab,aa,ao⟩:=row_at hj
       have bk:=kto_lt hn.net aa
       refine f_Q (aL bX rfl rfl (j))<|f_Q (aH Tryz.isAgg3 rfl (rdA (v:= .int .i64 (k:Int)) (eF (by rw [eG hj,ab])))) ?_;refine aB 1 rfl<|aD kh19<|aG fun kh20=>aB 2 rfl ?_
       refine f_S (aV Tryz.call198 rfl (fun w_ Z=>to_spec n e f bx bat bl bn k cap A w_ (fP (b:=bx) Z (fun j v hj=>hj)) (eS (hE.seen Z)) hn hf.len aa) ?_);rintro _ _ ⟨rfl,rfl⟩;dsimp only [aK,aJ];refine aB 1 rfl<|aD kh20<|aG fun kh21=>aB 1 rfl<|f_Q (dH rfl)<|cL lQ rfl<|cX Tryz.isAgg25 rfl (rdA rfl)<|aB 1 rfl<|f_Q (aL bX rfl rfl (kto e k))<|f_Q (aH Tryz.isAgg3 rfl (rdA (kV aA))) ?_
       refine aB 2 rfl<|d8 73 rfl (fun g73=>?_) (fun g73=>?_)
       ·
        refine aB 2 rfl ?_;refine jY rfl rfl rfl rfl rfl (aV Tryz.call193 rfl (fun w_ Z=>left_spec n e f bx bat bl bn k cap A w_ (fP (b:=bx) Z (fun j v hj=>hj)) (eS (hE.seen Z)) hn hf.len aa) ?_);rintro _ _ ⟨rfl,rfl⟩;dsimp only [aK,aJ];refine aB 2 rfl<|aD kh21<|aX rfl (fun c78=>?_) (fun c78=>?_)
        ·
         have bi:=unl_set (L:=J) (i:=kto e k) (x:=dK J v+1) aA g73 aA
         refine aS fun aj=>?_;have bu:=X v ac.1
         refine gG 14 rfl aW<|dI 1 rfl<|dB (dH rfl)<|dB (aT lQ rfl)<|gC Tryz.isAgg25 rfl (rdA rfl)<|dI 2 rfl<|dB (dH rfl)<|dB (aT lQ rfl)<|gC Tryz.isAgg25 rfl (rdA rfl)<|dI 1 rfl ?_
         refine dB (aL bX rfl rfl (v))<|dB (aH Tryz.isAgg3 rfl (rdA (kV aA)))<|dB (a8 rfl rfl)<|dB (aL bX rfl rfl (kto e k))<|eI (iX ?_)
         refine f_Z (bU Tryz.sizeOf3 rfl rfl rfl rfl (by rw [a7];omega) (bF (J.set (kto e k) (dK J v+1))) (pP ..) ?_);refine aD aj<|aI<|aB 2 rfl<|f_S (bQ eL aA rfl rfl rfl fun b95=>?_)
         refine f_S (o_appendO eL rfl rfl ad (ys:=[.int .i64 ((kto e k:Nat):Int)]) ⟨(rdA rfl),trivial⟩ rfl aA rfl aA aA fun aw az au=>?_);refine aB 1 rfl<|aZ<|dF<|bO kh18<|aI<|f_Q (a8 rfl rfl)<|aB 1 rfl<|aZ ?_
         refine cS (a6 (j+1,J.set (kto e k) (dK J v+1),wk++[kto e k],aw,az) (by first|omega|(dsimp only;omega)|(simp;omega)) ⟨aA,by
           have h:=Y.see hn.net aa (by rw [ao];exact ah) g73 c78
           rw [ao] at h
           exact h.weaken (fun q hq F=>by
           rcases F with F|F
           · exact .inl (.inl F)
           · rcases take_nextI hj F with F|F
             · exact .inl (.inr F)
             · rw [ab] at F;exact .inr aA),by rw [jQ aA];split<;>omega,by rw [nI_snoc];exact au,⟨by rw [List.length_append];simp;omega,fun u hu=>by rw [jQ aA];have:=X u hu;have:=X v ac.1;split<;>omega⟩,by rw [List.length_append];simp;omega⟩ ?_ ?_ ?_)
         · exact aF
         · exact aF
         · exact aC
        ·
         refine dY<|dF<|bO kh18<|aI<|f_Q (a8 rfl rfl)<|aB 1 rfl<|aZ ?_
         refine cS (a6 (j+1,J,wk,U,O) (by first|omega|(dsimp only;omega)|(simp;omega)) ⟨aA,(Y.skip (k:=k) aA).weaken (fun q hq F=>by
           rcases F with F|F
           · exact .inl (.inl F)
           · rcases take_nextI hj F with F|F
             · exact .inl (.inr F)
             · rw [ab] at F;exact .inr aA),ah,ad,⟨ai,X⟩,ae⟩ ?_ ?_ ?_)
         · exact aF
         · exact aF
         · exact aC
       ·
        refine aB 5 rfl<|aD kh21<|iJ rfl<|dY<|dF<|bO kh18<|aI<|f_Q (a8 rfl rfl)<|aB 1 rfl<|aZ ?_
        refine cS (a6 (j+1,J,wk,U,O) (by first|omega|(dsimp only;omega)|(simp;omega)) ⟨aA,(Y.skip (k:=k) aA).weaken (fun q hq F=>by
          rcases F with F|F
          · exact .inl (.inl F)
          · rcases take_nextI hj F with F|F
            · exact .inl (.inr F)
            · rw [ab] at F;exact .inr aA),ah,ad,⟨ai,X⟩,ae⟩ ?_ ?_ ?_)
        · exact aF
        · exact aF
        · exact aC
      ·
       refine cN<|cO<|cO<|eC<|dF<|f9 (Sub.joinF (m:=rm) (G' :=rG) al.symm) ?_
       refine cS (a6 (J,wk,U,O) (by simp only [List.length_cons];omega) ⟨Y.weaken fun k hk _=>by
         by_cases h:dP e k=v
         · right;rw [List.take_of_length_le aA,← h];exact kRow_has hk
         · exact .inl h,ad,ai,X⟩ ?_ ?_ ?_)
       · exact aF
       · exact aF
       · exact aC
    ·
     obtain rfl:work=[]:=by
       cases work with
       |nil=>rfl
       |cons v rest=>simp at ak;omega
     refine cN<|cO<|cO<|eC<|bO kh10<|aG fun kh23=>aB 1 rfl<|f_Q (dH rfl)<|cL lQ rfl<|cX Tryz.isAgg25 rfl (rdA rfl) ?_
     refine aB 1 rfl<|f_Q (aL bX rfl rfl (t))<|f_Q (aH Tryz.isAgg3 rfl (rdA (kV (by have:=hB.len;omega)))) ?_
     refine aB 2 rfl<|aD kh23<|aY ?_
     exact bJ [(mA bx bat bl bn n (.slice A e.length cap) vs ms.flatten me L2 (List.replicate n 0)).flatten] Tryz.results191 rfl (Sub.flatF (by unfold mA;repeat (first|exact aP|refine aM ?_|refine cE rfl ?_))) ⟨L2,_,rfl,DRep_mk hR hE,hB.done,rfl⟩
theorem nodup_le:∀ (m:Nat) (l:List Nat),l.Nodup→(∀ x,x∈l→x<m)→l.length≤m
 |0,l,_,h=>by
  cases l with
  |nil=>exact Nat.le_refl _
  |cons x l=>exact absurd (h x (List.mem_cons_self ..)) aA
 |m+1,l,hn,h=>by
  by_cases hm:m∈l
  ·have h1:=nodup_le m (l.erase m) (hn.erase m) fun x hx=>by
    have:=(hn.mem_erase_iff).1 hx
    have:=h x this.2
    omega
   have:=List.length_erase_of_mem hm
   omega
  ·have:=nodup_le m l hn fun x hx=>by
    have:=h x hx
    have:x≠m:=fun e=>hm (e▸hx)
    omega
   omega
theorem Wy.len {n:Nat} {e:List Arc} {s v:Nat} {f L nx:List Int} {W:List Nat} (h:Wy n e s f L nx W v):W.length≤e.length:=by
 have:=nodup_le e.length (W.map (· / 2)) (h.way.nodup h.up) fun x hx=>by
  obtain ⟨k,hk,rfl⟩:=List.mem_map.1 hx
  have:=h.way.lt k hk
  omega
 simpa using this
theorem Way.level {e:List Arc} {L:List Int}:∀ {W:List Nat} {u v:Nat},Way e u v W→Up e L W→dK L v=dK L u+W.length
 |[],u,v,h,_=>by have:u=v:=h;subst this;simp
 |k::r,u,v,⟨h1,h2,h3⟩,hU=>by
  have a:=Way.level h3 fun i hi=>hU i (List.mem_cons_of_mem _ hi)
  have b:=hU k (List.mem_cons_self ..)
  rw [h2] at b;rw [a,b,List.length_cons];omega
theorem xor1 (k:Nat):k ^^^ 1=if k % 2=0 then k+1 else k - 1:=by
 apply Nat.eq_of_testBit_eq;intro i;rw [Nat.testBit_xor]
 cases i with
 |zero=>
  split
  ·rename_i h
   have a:(k+1) % 2=1:=aA
   simp only [Nat.testBit_zero,h,a];rfl
  ·rename_i h
   have a:(k - 1) % 2=0:=aA
   have b:k % 2=1:=aA
   simp only [Nat.testBit_zero,b,a];rfl
 |succ i=>
  have h1:(1:Nat).testBit (i+1)=false:=by simp [Nat.testBit_succ]
  rw [h1,Bool.xor_false,Nat.testBit_succ]
  split
  ·rw [Nat.testBit_succ];congr 1;omega
  ·rw [Nat.testBit_succ];congr 1;omega
theorem xor1_lt {e:List Arc} {k:Nat} (h:k<2*e.length):k ^^^ 1<2*e.length:=by rw [xor1];split<;>omega
theorem kto_xor (e:List Arc) (k:Nat):kto e (k ^^^ 1)=dP e k:=by
 rw [xor1]
 unfold kto dP
 by_cases h:k % 2=0
 ·rw [if_pos h,if_neg aA,if_pos h,show (k+1) / 2=k / 2 by omega]
 ·rw [if_neg h,if_pos aA,if_neg h,show (k - 1) / 2=k / 2 by omega]
theorem nI_pop (W:List Nat) (k:Nat):(bF (nI (W++[k]))).take (W.length*1)=bF (nI W):=by
 rw [nI_snoc,List.take_left' (by rw [nI_len];omega)]
theorem last_of {W:List Nat} (h:W≠[]):∃ W' k,W=W' ++[k]:=⟨W.dropLast,W.getLast h,(List.dropLast_concat_getLast h).symm⟩
def WayΦ (n:Nat) (e:List Arc) (s t:Nat) (f L nx:List Int) (bx:Nat) (u:Value) (own:List Seg):Prop:=
 ∃ W nx' m' mw,own=[m',mw]∧DRep n e f L nx' bx m'∧Nx n e nx'∧Own 3 1 u W.length (bF (nI W)) mw∧W.length≤e.length∧(W≠[]→Way e s t W∧∀ k,k∈W→Good e f L k)∧(W=[]→Past n e t f L nx→Dead e t nx' s∧Past n e t f L nx')
theorem way_spec (n:Nat) (e:List Arc) (f L nx:List Int) (bx:Nat) (m:Seg) (s t:Nat) (w:World) (hn:NOk n e) (hf:Fits e f) (bh:L.length=n) (ay:dK L s=0) (ag:∀ v,v<n→-1≤dK L v) (hx:Nx n e nx) (hS:DRep n e f L nx bx m) (hs:s<n) (ht:t<n) (an:s≠t) (hw:Owns w [m]):
    Meets Tryz.prog 192 [.pointer (some ⟨bx,0,none⟩),.int .i64 (s:Int),.int .i64 (t:Int)] w [m] (WayΦ n e s t f L nx bx):=by
 have bv:=hn.n1
 have bg:=hn.len
 refine bE Tryz.func192 rfl Tryz.ntmps192 rfl hw ?_;obtain ⟨bat,bl,bn,ve,vs,ms,me,a1,hR,hE⟩:=hS
 obtain ⟨A,cap,rfl,_⟩:=hE.val
 refine eP (Sub.permF a1) ?_
 unfold mA
 refine aG fun kh1=>aB 1 rfl<|aD kh1<|f_scope<|aG fun kh2=>aB 1 rfl<|aD kh2<|aG fun kh3=>aB 2 rfl<|aD kh3 ?_
 refine aS fun kh4=>f_label<|bO kh4<|aS fun kh5=>aR ?_
 refine dA (α:=List Nat×Nat×List Int×Value×Seg) [0,2] (fun ⟨W,v,nx2,wv,wm⟩=>[(7,wv),(8,.int .i64 (v:Int))]) (fun ⟨W,v,nx2,wv,wm⟩=>[[(bx,blk (gR (.slice A e.length cap) n bat bl bn) 290)],[(bat,blk vs 25)],ms.flatten,me,[(bl,blk (bF L) 3)],[(bn,blk (bF nx2) 3)],wm]) (fun ⟨W,v,nx2,wv,wm⟩=>Wy n e s f L nx2 W v∧v<n∧Own 3 1 wv W.length (bF (nI W)) wm∧(Past n e t f L nx→Past n e t f L nx2)) (fun ⟨W,v,nx2,wv,wm⟩=>oW n e L nx2 v) ([],s,nx,.slice none 0 0,[]) ?_ ?_ ?_ ?_
 ·exact aF
 ·exact aC
 ·exact ⟨⟨rfl,fun k h=>by simp at h,fun k h=>by simp at h,hx⟩,hs,Own.nil _ _,fun h=>h⟩
 ·rintro ⟨W,v,nx2,wv,wm⟩ ⟨hy,F,hW,hP⟩;obtain ⟨Aw,cw,rfl,bp⟩:=hW.val
  refine aS fun ap=>aG fun kh7=>aB 3 rfl<|aD kh7<|aX rfl (fun c15=>?_) (fun c15=>?_)
  ·refine bV ap<|aR<|aS fun kh8=>aR ?_
   obtain ⟨rv,rm,rG,ao,ae,ad,_⟩:=hR.split (i:=v) (by rw [kN];exact F)
   rw [lH] at ae;have aw:=kRow_len e (2*e.length) v
   obtain ⟨Ar,cr,rfl,bu⟩:=ae.val
   refine eP (Sub.splitF ad) ?_;refine dA (α:=List Int) [0,2] (fun nx3=>[(7,.slice Aw W.length cw),(8,.int .i64 (v:Int))]) (fun nx3=>[[(bx,blk (gR (.slice A e.length cap) n bat bl bn) 290)],[(bat,blk vs 25)],rm,rG,me,[(bl,blk (bF L) 3)],[(bn,blk (bF nx3) 3)],wm]) (fun nx3=>Wy n e s f L nx3 W v∧(Past n e t f L nx→Past n e t f L nx3)∧oW n e L nx3 v≤oW n e L nx2 v) (fun nx3=>((jJ e (2*e.length) v).length - dK nx3 v).toNat) (nx2) ?_ ?_ ?_ ?_
   ·exact aF
   ·exact aC
   ·exact ⟨hy,hP,Nat.le_refl _⟩
   ·rintro nx3 ⟨hy3,ab,ak⟩;have bq:=hy3.nx.len
    have bk:0≤dK nx3 v∧dK nx3 v≤(((jJ e (2*e.length) v).length:Nat):Int):=hy3.nx.rng v F
    refine fF (e:=[(7,_),(8,_),(0,_),(2,_)]) aF ?_;refine aS fun az=>aS fun am=>gV rfl aW<|dI 1 rfl<|dB (dH rfl)<|dB (aT fa290_3 rfl)<|gC Tryz.isAgg25 rfl (rdA rfl)<|dI 1 rfl<|dB (aL bX rfl rfl (v))<|dB (aH Tryz.isAgg3 rfl (rdA (kV aA))) ?_
    refine dI 1 rfl<|dB (dH rfl)<|dB (aT qV rfl)<|gC Tryz.isAgg32 rfl (rdA rfl)<|dI 1 rfl<|dB (aL gL rfl rfl (v))<|dB (aH Tryz.isAgg25 rfl (rdA ao))<|dB (iH bX rfl)<|dI 1 rfl<|eI ?_
    refine bO am<|aX rfl (fun c31=>?_) (fun c31=>?_)
    ·refine bV az<|aS fun kh11=>aR<|aS fun kh12=>gG 16 rfl aW ?_
     have hj:(dK nx3 v).toNat<(jJ e (2*e.length) v).length:=aA
     have hlt:dK nx3 v<((row e v).length:Int):=by show dK nx3 v<((jJ e (2*e.length) v).length:Int);omega
     obtain ⟨br,sr,rfl,rfl⟩:=ae.at_ aA
     obtain ⟨k,aj,O,Y⟩:=row_at hj
     have aa:(row e v)[(dK nx3 v).toNat]? =some (k:Int):=by rw [List.getElem?_eq_getElem hj,aj]
     have a2:=kto_lt hn.net O
     have au:=hy3.way.level hy3.up
     rw [ay] at au;have ar:=hy3.len
     refine dI 1 rfl<|dB (dH rfl)<|dB (aT qV rfl)<|gC Tryz.isAgg32 rfl (rdA rfl)<|dI 1 rfl<|dB (aL gL rfl rfl (v))<|dB (aH Tryz.isAgg25 rfl (rdA ao))<|dI 1 rfl<|dB (dH rfl)<|dB (aT fa290_3 rfl) ?_
     refine gC Tryz.isAgg25 rfl (rdA rfl)<|dI 1 rfl<|dB (aL bX rfl rfl (v))<|dB (aH Tryz.isAgg3 rfl (rdA (kV aA)))<|dB (aL bX rfl rfl ((dK nx3 v).toNat))<|dB (aH Tryz.isAgg3 rfl (rdA (v:= .int .i64 (k:Int)) (eF (by rw [eG hj,aj])))) ?_
     refine eI (iX ?_);refine aB 1 rfl<|aD kh12<|aG fun kh13=>aB 2 rfl ?_
     refine f_S (aV Tryz.call198 rfl (fun w_ J=>to_spec n e f bx bat bl bn k cap A w_ (fP (b:=bx) J (fun j v hj=>hj)) (eS (hE.seen J)) hn hf.len O) ?_);rintro _ _ ⟨rfl,rfl⟩;dsimp only [aK,aJ];refine aB 1 rfl<|aD kh13<|aS fun kh14=>c7 [[(bx,blk (gR (.slice A e.length cap) n bat bl bn) 290)],[(bl,blk (bF L) 3)]] rfl<|f_T 0 rfl (aU rfl)<|f_T 1 rfl (aU rfl) ?_
     refine f_O 2 rfl (aV Tryz.call193 rfl (fun w_ J=>left_spec n e f bx bat bl bn k cap A w_ (fP (b:=bx) J (fun j v hj=>hj)) (eS (hE.seen J)) hn hf.len O) ?_);rintro _ _ ⟨rfl,rfl⟩;dsimp only [aK,aJ];refine ⟨aC,?_⟩;refine f_T 3 rfl (o_gtr rfl rfl)<|f_T 4 rfl (aU rfl)<|f_splitH 64 rfl (fun g64=>?_) (fun g64=>?_)
     ·refine iL 5 rfl rfl rfl (aU rfl)<|iL 6 rfl rfl rfl (dH rfl)<|iL 7 rfl rfl rfl (aT lQ rfl)<|iL 8 rfl rfl rfl (aH Tryz.isAgg25 rfl (rdA rfl))<|iL 9 rfl rfl rfl (aU rfl)<|iL 10 rfl rfl rfl (aL bX rfl rfl (kto e k))<|iL 11 rfl rfl rfl (aH Tryz.isAgg3 rfl (rdA (kV aA)))<|iL 12 rfl rfl rfl (aU rfl)<|iL 13 rfl rfl rfl (dH rfl)<|iL 14 rfl rfl rfl (aT lQ rfl) ?_
      refine iL 15 rfl rfl rfl (aH Tryz.isAgg25 rfl (rdA rfl))<|iL 16 rfl rfl rfl (aU rfl)<|iL 17 rfl rfl rfl (aL bX rfl rfl (v))<|iL 18 rfl rfl rfl (aH Tryz.isAgg3 rfl (rdA (kV aA)))<|iL 19 rfl rfl rfl (a8 rfl rfl)<|iL 20 rfl rfl rfl (o_eql rfl rfl)<|f_T 21 rfl (qI rfl rfl)<|cU aW<|bO kh14<|aX rfl (fun c81=>?_) (fun c81=>?_)
      ·refine aG fun kh15=>aB 2 rfl<|f_S (bQ eL aA rfl rfl rfl fun b84=>?_)
       refine f_S (dE eL rfl rfl hW (ys:=[.int .i64 (k:Int)]) ⟨(rdA rfl),trivial⟩ rfl rfl aA aA fun be ba bc=>?_);refine aB 1 rfl<|aD kh15<|aG fun kh16=>aB 2 rfl<|aD kh16<|cN<|f_bo rfl<|cO<|cO<|f_bo rfl ?_
       refine cO<|eC<|f9 (Sub.joinF ad.symm) ?_
       refine cS (a6 (W++[k],kto e k,nx3,be,ba) (by show oW n e L nx3 (kto e k)<oW n e L nx2 v;have:=wayMu_on (L:=L) ⟨g64,by rw [Y];exact c81⟩ Y hy3.nx;omega) ⟨hy3.on O Y aa ⟨g64,by rw [Y];exact c81⟩,a2,by rw [nI_snoc,List.length_append];exact bc,ab⟩ ?_ ?_ ?_)
       ·exact aF
       ·exact aF
       ·exact aC
      ·refine dY<|dF<|bO kh11<|aI<|aB 1 rfl<|f_Q (dH rfl)<|cL fa290_3 rfl<|cX Tryz.isAgg25 rfl (rdA rfl)<|aB 1 rfl<|f_Q (aL bX rfl rfl (v)) ?_
       refine f_Q (aH Tryz.isAgg3 rfl (rdA (kV aA)))<|f_Q (a8 rfl rfl)<|f_Q (aL bX rfl rfl (v))<|f_Z (bU Tryz.sizeOf3 rfl rfl rfl rfl (by rw [a7];omega) (bF (nx3.set v (dK nx3 v+1))) (pP ..) ?_)
       refine aZ ?_
       refine cS (a6 (nx3.set v (dK nx3 v+1)) (by rw [jQ aA,if_pos rfl];omega) ⟨hy3.pass F hlt,fun h=>(ab h).step hy3.nx F hlt (fun k' U ac=>by
         rw [aa] at U;obtain rfl:k=k' :=by have:=Option.some.inj U;omega
         obtain ⟨q1,q2⟩:=ac
         rw [Y] at q2;omega),Nat.le_trans (Nat.le_of_lt (wayMu_pass (L:=L) hy3.nx F hlt (ag v F) v)) ak⟩ ?_ ?_ ?_)
       ·exact aF
       ·exact aF
       ·exact aC
     ·refine dR 5 rfl aW rfl rfl rfl rfl rfl rfl aC<|dR 6 rfl aW rfl rfl rfl rfl rfl rfl aC<|dR 7 rfl aW rfl rfl rfl rfl rfl rfl aC<|dR 8 rfl aW rfl rfl rfl rfl rfl rfl aC<|dR 9 rfl aW rfl rfl rfl rfl rfl rfl aC<|dR 10 rfl aW rfl rfl rfl rfl rfl rfl aC<|dR 11 rfl aW rfl rfl rfl rfl rfl rfl aC<|dR 12 rfl aW rfl rfl rfl rfl rfl rfl aC<|dR 13 rfl aW rfl rfl rfl rfl rfl rfl aC<|dR 14 rfl aW rfl rfl rfl rfl rfl rfl aC ?_
      refine dR 15 rfl aW rfl rfl rfl rfl rfl rfl aC<|dR 16 rfl aW rfl rfl rfl rfl rfl rfl aC<|dR 17 rfl aW rfl rfl rfl rfl rfl rfl aC<|dR 18 rfl aW rfl rfl rfl rfl rfl rfl aC<|dR 19 rfl aW rfl rfl rfl rfl rfl rfl aC<|dR 20 rfl aW rfl rfl rfl rfl rfl rfl aC<|f_T 21 rfl (o_pickF rfl rfl)<|cU aW<|bO kh14<|iJ rfl ?_
      refine dY<|dF<|bO kh11<|aI<|aB 1 rfl<|f_Q (dH rfl)<|cL fa290_3 rfl<|cX Tryz.isAgg25 rfl (rdA rfl)<|aB 1 rfl<|f_Q (aL bX rfl rfl (v)) ?_
      refine f_Q (aH Tryz.isAgg3 rfl (rdA (kV aA)))<|f_Q (a8 rfl rfl)<|f_Q (aL bX rfl rfl (v))<|f_Z (bU Tryz.sizeOf3 rfl rfl rfl rfl (by rw [a7];omega) (bF (nx3.set v (dK nx3 v+1))) (pP ..) ?_)
      refine aZ ?_
      refine cS (a6 (nx3.set v (dK nx3 v+1)) (by rw [jQ aA,if_pos rfl];omega) ⟨hy3.pass F hlt,fun h=>(ab h).step hy3.nx F hlt (fun k' U ac=>by
        rw [aa] at U;obtain rfl:k=k' :=by have:=Option.some.inj U;omega
        obtain ⟨q1,q2⟩:=ac
        rw [Y] at q2;omega),Nat.le_trans (Nat.le_of_lt (wayMu_pass (L:=L) hy3.nx F hlt (ag v F) v)) ak⟩ ?_ ?_ ?_)
      ·exact aF
      ·exact aF
      ·exact aC
    ·refine cN<|cO<|cO<|eC<|bO kh8<|aS fun kh17=>aG fun ah=>aB 1 rfl<|dU bX rfl<|aB 1 rfl ?_
     refine aD ah<|aX rfl (fun c89=>?_) (fun c89=>?_)
     ·obtain rfl:W=[]:=by
        cases W with
        |nil=>rfl
        |cons a b=>simp at c89;omega
      have av:s=v:=hy3.way
      subst av;refine aG fun al=>aB 1 rfl<|aD al<|aY<|cV<|fA<|cV<|fA<|cV<|f_nr ?_
      exact bJ [(mA bx bat bl bn n (.slice A e.length cap) vs ms.flatten me L nx3).flatten,[]] Tryz.results192 rfl (Sub.transF (Sub.joinF ad.symm) (Sub.flat2 (Sub.transF (b:=mA bx bat bl bn n (.slice A e.length cap) vs ms.flatten me L nx3) (by unfold mA;repeat (first|exact aP|refine aM ?_|refine cE rfl ?_)) Sub.addNil))) ⟨[],nx3,_,[],rfl,DRep_mk hR hE,hy3.nx,Own.nil _ _,Nat.zero_le _,fun h=>absurd rfl h,fun _ h=>⟨⟨by show dK nx3 s=(((jJ e (2*e.length) s).length:Nat):Int);omega,an⟩,ab h⟩⟩
     ·obtain ⟨W',k,rfl⟩:=last_of (W:=W) (fun e' =>by subst e';simp at c89)
      have ar:=hy3.len
      have bt:(W' ++[k]).length=W'.length+1:=aN
      obtain ⟨bw,sw,rfl,rfl⟩:=hW.at_ aA
      obtain ⟨O,ax,aq⟩:=hy3.back
      have X:=nM hn.net O
      have Z:=hy3.lt
      have bj:dK nx3 (dP e k)<(((jJ e (2*e.length) (dP e k)).length:Nat):Int):=hy3.lt
      have bi:=hy3.nx.rng _ X
      have bf:=kRow_len e (2*e.length) (dP e k)
      refine bV kh17<|aG fun kh20=>aB 2 rfl<|dU bX rfl<|f_Q (jC rfl rfl)<|f_Q (aL bX rfl rfl (W'.length))<|f_Q (aH Tryz.isAgg3 rfl (rdA (v:= .int .i64 (k:Int)) (eF (by rw [nI_snoc,List.getElem?_append_right (by rw [nI_len];exact Nat.le_refl _),nI_len,Nat.sub_self];rfl)))) ?_
      refine aB 1 rfl<|aD kh20<|aG fun kh21=>aB 2 rfl<|dU bX rfl<|f_Q (jC rfl rfl)<|f_Q (f7 bX rfl rfl rfl rfl (fun h=>by cases h) 0 W'.length _ (.inl ⟨rfl,rfl⟩) (.inr ⟨_,_,rfl,aA⟩) (.inl ⟨rfl,rfl⟩) ⟨aA,aA,aA⟩ (.slice (some ⟨bw,0,none⟩) W'.length cw) (by rw [if_neg aA];simp [dG])) ?_
      refine aB 1 rfl<|aD kh21<|aG fun kh22=>aB 2 rfl<|f_Q (o_xor rfl rfl ((k ^^^ 1:Nat):Int) (xor_one aA)) ?_
      refine f_S (aV Tryz.call198 rfl (fun w_ J=>to_spec n e f bx bat bl bn (k ^^^ 1) cap A w_ (fP (b:=bx) J (fun j v hj=>hj)) (eS (hE.seen J)) hn hf.len (xor1_lt O)) ?_);rintro _ _ ⟨rfl,rfl⟩;rw [kto_xor];dsimp only [aK,aJ];refine aB 1 rfl<|aD kh22<|aI<|aB 1 rfl<|f_Q (dH rfl)<|cL fa290_3 rfl<|cX Tryz.isAgg25 rfl (rdA rfl)<|aB 1 rfl<|f_Q (aL bX rfl rfl (dP e k))<|f_Q (aH Tryz.isAgg3 rfl (rdA (kV aA))) ?_
      refine f_Q (a8 rfl rfl)<|f_Q (aL bX rfl rfl (dP e k))<|f_Z (bU Tryz.sizeOf3 rfl rfl rfl rfl (by rw [a7];omega) (bF (nx3.set (dP e k) (dK nx3 (dP e k)+1))) (pP ..) ?_)
      refine aZ<|dF<|f9 (Sub.joinF ad.symm) ?_
      refine cS (a6 (W',dP e k,nx3.set (dP e k) (dK nx3 (dP e k)+1),.slice (some ⟨bw,0,none⟩) W'.length cw,[(bw,blk (bF (nI (W' ++[k]))++sw) 3)]) (by show oW n e L (nx3.set (dP e k) (dK nx3 (dP e k)+1)) (dP e k)<oW n e L nx2 v;have:=wayMu_pass (L:=L) hy3.nx X Z (ag _ X) v;omega) ⟨aq.pass X Z,X,by have:=hW.head (n:=W'.length) aN;rw [nI_pop] at this;exact this,fun h=>(ab h).step hy3.nx X Z (fun k' U ac=>by
        have ai:=hy3.cur k aN
        rw [U] at ai;obtain rfl:k' =k:=by have:=Option.some.inj ai;omega
        rw [ax];exact ⟨by show dK nx3 v=(((jJ e (2*e.length) v).length:Nat):Int);omega,fun e' =>c15 (by rw [e'])⟩)⟩ ?_ ?_ ?_)
      ·exact aF
      ·exact aF
      ·exact aC
  ·obtain rfl:v=t:=aA
   refine cN<|cO<|cO<|eC<|bO kh5<|aG fun kh23=>aB 2 rfl<|aD kh23<|aY<|f_nr ?_
   exact bJ [(mA bx bat bl bn n (.slice A e.length cap) vs ms.flatten me L nx2).flatten,wm] Tryz.results192 rfl (Sub.flat2 (by unfold mA;repeat (first|exact aP|refine aM ?_|refine cE rfl ?_))) ⟨W,nx2,_,wm,rfl,DRep_mk hR hE,hy.nx,hW,hy.len,fun _=>⟨hy.way,hy.good⟩,fun h=>by subst h;exact absurd (show s=v from hy.way) an⟩
theorem Sub.flatR {segs out r:List Seg} (h:Sub segs (out++r)):Sub segs (out.flatten::r):=by
 obtain ⟨q,h⟩:=h
 exact ⟨q,by simpa using h⟩
theorem Sub.openAtF {segs F out:List Seg} {m:Seg} [p:Pick segs m F] (hp:m.Perm out.flatten):Sub segs (out++F):=Sub.pickF hp Sub.refl
theorem nI_get {W:List Nat} {j:Nat} (h:j<W.length):(bF (nI W))[j]? =some (.int .i64 ((W[j]:Nat):Int)):=by simp [nI,bF,h]
theorem kleft_xor {e:List Arc} {f:List Int} (k:Nat):fL e f k+fL e f (k ^^^ 1)=(eQ e (k / 2)).wt:=by
 rw [xor1]
 unfold fL
 by_cases h:k % 2=0
 ·rw [if_pos h,if_pos h,if_neg aA,show (k+1) / 2=k / 2 by omega];omega
 ·rw [if_neg h,if_neg h,if_pos aA,show (k - 1) / 2=k / 2 by omega];omega
theorem other_at (k:Nat):(k ^^^ 1) / 2*4+2+(k ^^^ 1) % 2=k / 2*4+2+(1 - k % 2):=by
 rw [xor1];split<;>omega
theorem zip_set:∀ {e:List Arc} {f:List Int} {i:Nat} {y:Int},f.length=e.length→i<e.length→List.zip e (f.set i y)=(List.zip e f).set i (eQ e i,y)
 |[],f,i,y,_,h=>by simp at h
 |x::e,[],i,y,h,_=>by simp at h
 |x::e,z::f,0,y,_,_=>by simp [eQ]
 |x::e,z::f,i+1,y,h,hi=>by
  have:=zip_set (e:=e) (f:=f) (i:=i) (y:=y) (by simpa using h) (by simpa using hi)
  simp only [List.set_cons_succ,List.zip_cons_cons,this];simp [eQ]
theorem ecells_push {e:List Arc} {f:List Int} {k:Nat} {d:Int} {sp:List Value} (h:f.length=e.length) (hk:k<2*e.length):
  ((gY e f++sp).set (k / 2*4+2+k % 2) (.int .u32 (fL e f k - d))).set (k / 2*4+2+(1 - k % 2)) (.int .u32 (fL e f (k ^^^ 1)+d))=gY e (kY f k d)++sp:=by
 have hi:k / 2<e.length:=aA
 obtain ⟨hz,J⟩:=zip_at h hi
 have e1:gY e (kY f k d)=((List.zip e f).set (k / 2) (eQ e (k / 2),dK f (k / 2)+(if k % 2=0 then d else -d))).flatMap ecs:=by
  unfold gY kY;rw [zip_set h hi]
 have hx:=kleft_xor (e:=e) (f:=f) k
 have O:∀ y,k / 2<((List.zip e f).set (k / 2) y).length:=fun y=>by simpa using hz
 have U:gY e f=(List.zip e f).flatMap ecs:=rfl
 rw [e1,U]
 by_cases h2:k % 2=0
 ·have F:fL e f k=(eQ e (k / 2)).wt - dK f (k / 2):=by unfold fL;rw [if_pos h2]
  rw [h2,if_pos rfl,show k / 2*4+2+0=k / 2*4+2 from rfl,show k / 2*4+2+(1 - 0)=k / 2*4+3 from rfl];rw [lX ecs_len sp (q:=2) aA (List.zip e f) (k / 2) (⟨(eQ e (k / 2)).src,(eQ e (k / 2)).dst,(eQ e (k / 2)).wt - d⟩,dK f (k / 2)) hz (by rw [J];simp only [ecs,List.set_cons_succ,List.set_cons_zero,F];congr 3;congr 1;omega)]
  rw [lX ecs_len sp (q:=3) aA _ (k / 2) (eQ e (k / 2),dK f (k / 2)+d) (O _) (by
   rw [List.getElem_set_self];simp only [ecs,List.set_cons_succ,List.set_cons_zero]
   rw [show fL e f (k ^^^ 1)=dK f (k / 2) by omega,show (eQ e (k / 2)).wt - d - dK f (k / 2)=(eQ e (k / 2)).wt - (dK f (k / 2)+d) by omega])]
  rw [List.set_set]
 ·have h3:k % 2=1:=aA
  have F:fL e f k=dK f (k / 2):=by unfold fL;rw [if_neg h2]
  rw [h3,if_neg aA,show k / 2*4+2+1=k / 2*4+3 from rfl,show k / 2*4+2+(1 - 1)=k / 2*4+2 from rfl]
  rw [lX ecs_len sp (q:=3) aA (List.zip e f) (k / 2) (⟨(eQ e (k / 2)).src,(eQ e (k / 2)).dst,(eQ e (k / 2)).wt - d⟩,dK f (k / 2)+ -d) hz (by
   rw [J];simp only [ecs,List.set_cons_succ,List.set_cons_zero,F]
   rw [show (eQ e (k / 2)).wt - d - (dK f (k / 2)+ -d)=(eQ e (k / 2)).wt - dK f (k / 2) by omega,show dK f (k / 2)+ -d=dK f (k / 2) - d by omega])]
  rw [lX ecs_len sp (q:=2) aA _ (k / 2) (eQ e (k / 2),dK f (k / 2)+ -d) (O _) (by
   rw [List.getElem_set_self];simp only [ecs,List.set_cons_succ,List.set_cons_zero]
   rw [show fL e f (k ^^^ 1)+d=(eQ e (k / 2)).wt - (dK f (k / 2)+ -d) by omega])]
  rw [List.set_set]
theorem ecells_other {e:List Arc} {f:List Int} {k:Nat} {x:Value} {sp:List Value} (h:f.length=e.length) (hk:k<2*e.length):
  ((gY e f++sp).set (k / 2*4+2+k % 2) x)[k / 2*4+2+(1 - k % 2)]? =some (.int .u32 (fL e f (k ^^^ 1))):=by
 rw [List.getElem?_set_ne aA,← other_at];exact eF (ecells_left h (xor1_lt hk))
theorem min_step {e:List Arc} {f:List Int} {W:List Nat} {j:Nat} {F:Int} (hj:j<W.length) (h:∀ i (h:i<W.length),i<j→F≤fL e f W[i]):∀ i (h:i<W.length),i<j+1→min F (fL e f W[j])≤fL e f W[i]:=fun i hi J=>by
 by_cases e' :i=j
 ·subst e';exact Int.min_le_right _ _
 ·exact Int.le_trans (Int.min_le_left _ _) (h i hi aA)
theorem push_left {e:List Arc} {f:List Int} {W:List Nat} {j:Nat} {d:Int} (hf:f.length=e.length) (hj:j<W.length) (hl:∀ k,k∈W→k<2*e.length) (hn:(W.map (· / 2)).Nodup):fL e (gE f (W.take j) d) W[j]=fL e f W[j]:=by
 have:dK (gE f (W.take j) d) (W[j] / 2)=dK f (W[j] / 2):=flAt_pushAll (fun k hk=>by have:=hl k (List.mem_of_mem_take hk);omega) fun k hk e' =>by
  obtain ⟨i,hi,rfl⟩:=List.mem_iff_getElem.1 hk
  have F:i<j:=by have:=hi;simp at this;omega
  rw [List.getElem_take] at e';have h1:i<(W.map (· / 2)).length:=by simp;omega
  have h2:j<(W.map (· / 2)).length:=by simpa using hj
  exact absurd (by simpa using e') (List.pairwise_iff_getElem.1 hn i j h1 h2 F)
 unfold fL;rw [this]
theorem run_spec (n:Nat) (e:List Arc) (L0 al:List Int) (bx:Nat) (m:Seg) (s t:Nat) (w:World) (hn:NOk n e) (bC:L0.length=n) (bY:al.length=n) (hS:DRep n e (List.replicate e.length 0) L0 al bx m) (hs:s<n) (ht:t<n) (ae:s≠t) (hw:Owns w [m]):
    Meets Tryz.prog 178 [.pointer (some ⟨bx,0,none⟩),.int .i64 (s:Int),.int .i64 (t:Int)] w [m] (fun u own' =>∃ V f L' nx' m',u= .int .u64 V∧own' =[m']∧DRep n e f L' nx' bx m'∧Flow n e s t f V∧Lay n e s f L'∧dK L' t<0∧0≤V∧V≤70368744161280):=by
 have cj:=hn.n1
 have b6:=hn.len
 have b1:∀ x∈e,x.wt≤4294967295:=fun x hx=>(hn.ok x hx).wt.2
 have b8:kJ e≤70368744161280:=by have:=capSum_le 4294967295 e b1;omega
 refine bE Tryz.func178 rfl Tryz.ntmps178 rfl hw<|aG fun kh1=>aB 1 rfl<|aD kh1<|aG fun kh2=>aB 1 rfl<|aD kh2<|aS fun kh3=>aR ?_
 refine dA (α:=Int×List Int×List Int×List Int×Seg) [0,1,2] (fun ⟨V,f,L,nx,m1⟩=>[(7,.int .u64 V)]) (fun ⟨V,f,L,nx,m1⟩=>[m1]) (fun ⟨V,f,L,nx,m1⟩=>Flow n e s t f V∧0≤V∧DRep n e f L nx bx m1∧L.length=n∧nx.length=n) (fun ⟨V,f,L,nx,m1⟩=>(kJ e - V).toNat) (0,List.replicate e.length 0,L0,al,m) ?_ ?_ ?_ ?_
 ·exact aF
 ·exact aC
 ·exact ⟨Flow.zero fun x hx=>(hn.ok x hx).wt.1,Int.le_refl _,hS,bC,bY⟩
 ·rintro ⟨V,f,L,nx,m1⟩ ⟨hF,hV,hD,bj,bB⟩;have ci:=hF.val_le hs ae
  refine aS fun bv=>aG fun bt=>aB 3 rfl ?_;refine f_S (d4 [m1] _ Tryz.call191 rfl (aM Sub.refl) (fun w_ U=>layers_spec n e f L nx bx m1 s t w_ hn hF.fits bj bB hD hs ht U.owns) ?_);rintro _ _ ⟨L1,m1',rfl,ax,Z,rfl⟩;dsimp only [aK,aJ];refine aD bt<|aX rfl (fun c17=>?_) (fun c17=>?_)
  ·refine bV bv<|aR<|aG fun kh6=>aB 3 rfl ?_
   refine f_S (d4 [m1'] _ Tryz.call192 rfl (aM Sub.refl) (fun w_ U=>way_spec n e f L1 (List.replicate n 0) bx m1' s t w_ hn hF.fits Z.len Z.s0 Z.ge (Nx.start n e) ax hs ht ae U.owns) ?_);rintro b4 _ ⟨W1,br,m2,bq,rfl,an,av,bL,am,bf,a1⟩
   have a2:W1≠[]:=fun h=>by
     obtain ⟨a,b⟩:=a1 h (Past.start n e t f L1)
     exact way_there Z hn.net ht c17 av b a
   dsimp only [aK,aJ];refine aB 1 rfl<|aD kh6<|aR ?_
   refine dA (α:=Int×List Int×List Int×Seg×List Nat×Value×Seg) [0,1,2] (fun ⟨V2,J,F,m2,W,wv,wm⟩=>[(7,.int .u64 V2),(8,wv)]) (fun ⟨V2,J,F,m2,W,wv,wm⟩=>[m2,wm]) (fun ⟨V2,J,F,m2,W,wv,wm⟩=>Flow n e s t J V2∧DRep n e J L1 F bx m2∧Nx n e F∧Own 3 1 wv W.length (bF (nI W)) wm∧W.length≤e.length∧(W≠[]→Way e s t W∧∀ k,k∈W→Good e J L1 k)∧V≤V2∧(W=[]→V<V2)) (fun ⟨V2,J,F,m2,W,wv,wm⟩=>(kJ e - V2).toNat) (V,f,br,m2,W1,b4,bq) ?_ ?_ ?_ ?_
   ·exact aF
   ·exact aC
   ·exact ⟨hF,an,av,bL,am,bf,Int.le_refl _,fun h=>absurd h a2⟩
   ·rintro ⟨V2,J,F,m2,W,wv,wm⟩ ⟨X,az,aw,hW,cf,bg,cg,hne⟩;obtain ⟨Aw,cw,rfl,cd⟩:=hW.val
    have b5:=X.val_le hs ae
    refine fF (e:=[(7,_),(8,_),(0,_),(1,_),(2,_)]) aF ?_;refine aS fun bu=>aG fun kh8=>aB 1 rfl<|dU bX rfl<|aB 1 rfl<|aD kh8<|aX rfl (fun c24=>?_) (fun c24=>?_)
    ·refine bV bu<|aS fun kh9=>aR<|aS fun kh10=>?_
     have ad:0<W.length:=aA
     have ac:=bg (fun h=>by subst h;simp at ad)
     have aa:=ac.1.lt
     have bc:=ac.1.nodup (L:=L1) fun k hk=>(ac.2 k hk).2
     obtain ⟨bat,bl,bn,ve,vs,ms,me,bK,hR,hE⟩:=az
     obtain ⟨A,cap,rfl,_⟩:=hE.val
     obtain ⟨bw,sw,rfl,rfl⟩:=hW.at_ ad
     refine eP (Sub.openAtF bK) ?_
     unfold mA
     dsimp only [aK,aJ];refine aI<|aB 2 rfl<|f_Q (aL bX rfl rfl (0))<|f_Q (aH Tryz.isAgg3 rfl (rdA (eF (nI_get ad)))) ?_
     refine f_S (aV Tryz.call193 rfl (fun w_ U=>left_spec n e J bx bat bl bn W[0] cap A w_ (fP (b:=bx) U (fun j v hj=>hj)) (eS (hE.seen U)) hn X.fits.len (aa _ (List.getElem_mem ad))) ?_);rintro _ _ ⟨rfl,rfl⟩;dsimp only [aK,aJ];refine aB 1 rfl<|aD kh10<|aS fun kh11=>aG fun ap=>aB 1 rfl<|dU bX rfl<|aB 1 rfl<|aD ap<|aR ?_
     refine dA (α:=Nat×Int) [0,1,2,7,8,34,35] (fun ⟨j,O⟩=>[(36,.int .i64 (j:Int)),(9,.int .u32 O)]) (fun ⟨j,O⟩=>[[(bx,blk (gR (.slice A e.length cap) n bat bl bn) 290)],[(bat,blk vs 25)],ms.flatten,me,[(bl,blk (bF L1) 3)],[(bn,blk (bF F) 3)],[(bw,blk (bF (nI W)++sw) 3)]]) (fun ⟨j,O⟩=>j≤W.length∧0<O∧O≤4294967295∧∀ i (h:i<W.length),i<j→O≤fL e J W[i]) (fun ⟨j,O⟩=>W.length - j) (0,fL e J W[0]) ?_ ?_ ?_ ?_
     ·exact aF
     ·exact aC
     ·exact ⟨Nat.zero_le _,(ac.2 _ (List.getElem_mem _)).1,by have:=kleft_rng X.fits (aa _ (List.getElem_mem ad));have:=(hn.at_ (i:=W[0] / 2) (by have:=aa _ (List.getElem_mem ad);omega));omega,fun i h hi=>aA⟩
     ·rintro ⟨j,O⟩ ⟨bM,cn,co,aj⟩;refine fF (e:=[(36,_),(9,_),(0,_),(1,_),(2,_),(7,_),(8,_),(34,_),(35,_)]) aF ?_;refine aG fun kh13=>aB 1 rfl<|aD kh13<|aS fun kh14=>aX rfl (fun bh=>?_) (fun bh=>?_)
      ·refine bV kh14<|aS fun kh15=>aR<|aG fun kh16=>?_
       have hj:j<W.length:=aA
       refine f_Q (aL bX rfl rfl (j))<|f_Q (aH Tryz.isAgg3 rfl (rdA (eF (nI_get hj))))<|aB 1 rfl<|aD kh16<|aI<|aB 3 rfl ?_
       refine f_S (aV Tryz.call193 rfl (fun w_ U=>left_spec n e J bx bat bl bn W[j] cap A w_ (fP (b:=bx) U (fun j v hj=>hj)) (eS (hE.seen U)) hn X.fits.len (aa _ (List.getElem_mem hj))) ?_);rintro _ _ ⟨rfl,rfl⟩;dsimp only [aK,aJ];refine f_Q (o_min rfl rfl)<|aB 1 rfl<|aZ<|dF<|bO kh15<|aI<|f_Q (a8 rfl rfl)<|aB 1 rfl<|aZ ?_
       refine cS (a6 (j+1,min O (fL e J W[j])) (by first|omega|(dsimp only;omega)|(simp;omega)) ⟨aA,by have:=(ac.2 _ (List.getElem_mem hj)).1;omega,aA,min_step hj aj⟩ ?_ ?_ ?_)
       ·exact aF
       ·exact aF
       ·exact aC
      ·refine cN<|cO<|cO<|eC<|bO kh11<|aS fun kh17=>aG fun ao=>aB 1 rfl<|dU bX rfl<|aB 1 rfl ?_
       refine aD ao<|aR ?_
       have ah:∀ k,k∈W→O≤fL e J k:=fun k hk=>by
         obtain ⟨i,hi,rfl⟩:=List.mem_iff_getElem.1 hk
         exact aj i hi aA
       have ak:=X.push aA ac.1 bc ah
       have b7:=ak.val_le hs ae
       refine dA (α:=Nat×Seg) [0,1,2,7,9,46,47] (fun ⟨j,Y⟩=>[(48,.int .i64 (j:Int))]) (fun ⟨j,Y⟩=>[[(bx,blk (gR (.slice A e.length cap) n bat bl bn) 290)],[(bat,blk vs 25)],ms.flatten,Y,[(bl,blk (bF L1) 3)],[(bn,blk (bF F) 3)],[(bw,blk (bF (nI W)++sw) 3)]]) (fun ⟨j,Y⟩=>j≤W.length∧Own 301 4 (.slice A e.length cap) e.length (gY e (gE J (W.take j) O)) Y) (fun ⟨j,Y⟩=>W.length - j) (0,me) ?_ ?_ ?_ ?_
       ·exact aF
       ·exact aC
       ·exact ⟨Nat.zero_le _,hE⟩
       ·rintro ⟨j,Y⟩ ⟨bM,ai⟩;refine fF (e:=[(48,_),(0,_),(1,_),(2,_),(7,_),(9,_),(46,_),(47,_)]) aF ?_;refine aG fun kh19=>aB 1 rfl<|aD kh19<|aS fun kh20=>aX rfl (fun bp=>?_) (fun bp=>?_)
        ·refine bV kh20<|aS fun kh21=>aR<|aG fun kh22=>?_
         have hj:j<W.length:=aA
         refine f_Q (aL bX rfl rfl (j))<|f_Q (aH Tryz.isAgg3 rfl (rdA (eF (nI_get hj))))<|aB 1 rfl<|aD kh22<|aS fun kh23=>?_
         have ar:=push_left (d:=O) X.fits.len hj aa bc
         have ab:(gE J (W.take j) O).length=e.length:=by rw [pushAll_len];exact X.fits.len
         have ag:=aa _ (List.getElem_mem hj)
         obtain ⟨be,spE,rfl,rfl,ay⟩:=ai.upd aA
         have cm:=aj j hj aA
         have ck:=kleft_rng X.fits ag
         have b9:=kleft_xor (e:=e) (f:=gE J (W.take j) O) W[j]
         have ce:=hn.at_ (i:=W[j] / 2) aA
         have aq:=nR ab
         refine gG 17 rfl aW<|dI 1 rfl<|dB (dH rfl)<|dB (aT qW rfl)<|gC Tryz.isAgg288 rfl (rdA rfl)<|dI 1 rfl<|dB (o_shr rfl rfl (by decide) ((W[j] / 2:Nat):Int) (shr_one aA)) ?_
         refine dI 1 rfl<|dB (o_and rfl rfl ((W[j] % 2:Nat):Int) (and_one aA))<|dB (aL sl288 rfl rfl (W[j] / 2*4))<|dB (aT fa301_1 rfl)<|dB (o_idxA ar299 rfl rfl (W[j] / 2*4+2+W[j] % 2) ⟨aA,aA,mac_fo⟩)<|dB (aH Tryz.isAgg56 rfl (rdA (v:= .int .u32 (fL e J W[j])) (eF (by rw [ecells_left ab ag,ar])))) ?_
         refine dI 1 rfl<|dB (kM rfl rfl _ (wrap_u32 aA))<|dB (aL sl288 rfl rfl (W[j] / 2*4))<|dB (aT fa301_1 rfl)<|dB (o_idxA ar299 rfl rfl (W[j] / 2*4+2+W[j] % 2) ⟨aA,aA,mac_fo⟩)<|eI (iX ?_)
         refine f_Z (bU Tryz.sizeOf56 rfl rfl rfl rfl (by rw [List.length_append,aq];omega) _ rfl ?_);refine aD kh23<|gG 18 rfl aW<|dI 1 rfl<|dB (dH rfl)<|dB (aT qW rfl)<|gC Tryz.isAgg288 rfl (rdA rfl)<|dI 1 rfl<|dB (o_shr rfl rfl (by decide) ((W[j] / 2:Nat):Int) (shr_one aA)) ?_
         refine dI 1 rfl<|dB (o_and rfl rfl ((W[j] % 2:Nat):Int) (and_one aA))<|dB (jC rfl rfl)<|dB (aL sl288 rfl rfl (W[j] / 2*4))<|dB (aT fa301_1 rfl)<|dB (o_idxA ar299 rfl rfl (W[j] / 2*4+2+(1 - W[j] % 2)) ⟨aA,aA,mac_fo⟩)<|dB (aH Tryz.isAgg56 rfl (rdA (ecells_other ab ag)))<|dI 1 rfl<|dB (lA rfl rfl _ (wrap_u32 aA))<|dB (aL sl288 rfl rfl (W[j] / 2*4)) ?_
         refine dB (aT fa301_1 rfl)<|dB (o_idxA ar299 rfl rfl (W[j] / 2*4+2+(1 - W[j] % 2)) ⟨aA,aA,mac_fo⟩)<|eI (iX ?_)
         refine f_Z (bU Tryz.sizeOf56 rfl rfl rfl rfl (by rw [List.length_set,List.length_append,aq];omega) (gY e (kY (gE J (W.take j) O) W[j] O)++spE) (by rw [← ar];exact ecells_push ab ag) ?_);refine aZ<|dF<|bO kh21<|aI<|f_Q (a8 rfl rfl)<|aB 1 rfl<|aZ ?_
         refine cS (a6 (j+1,[(be,blk (gY e (kY (gE J (W.take j) O) W[j] O)++spE) 301)]) (by first|omega|(dsimp only;omega)|(simp;omega)) ⟨aA,by rw [List.take_succ_eq_append_getElem hj,pushAll_snoc];exact ay _ (by rw [nR (by rw [pT];exact ab),nR ab])⟩ ?_ ?_ ?_)
         ·exact aF
         ·exact aF
         ·exact aC
        ·refine cN<|cO<|cO<|eC<|bO kh17 ?_
         have bR:W.take j=W:=List.take_of_length_le aA
         have b2:Own 301 4 (.slice A e.length cap) e.length (gY e (gE J W O)) Y:=by rw [bR] at ai;exact ai
         refine aI<|aB 2 rfl<|f_Q (g5 Tryz.runUnderlying56 Tryz.runUnderlying45 rfl _ (iQ aA)) ?_
         refine f_Q (lA rfl rfl _ (iQ aA))<|aB 1 rfl<|aZ<|dF<|bO kh9<|aI<|aB 3 rfl ?_
         refine f_S (d4 [(mA bx bat bl bn n (.slice A e.length cap) vs ms.flatten Y L1 F).flatten] _ Tryz.call192 rfl (Sub.flatR (out:=mA bx bat bl bn n (.slice A e.length cap) vs ms.flatten Y L1 F) (aM (aM (aM (aM (aM (aM Sub.refl))))))) (fun w_ U=>way_spec n e (gE J W O) L1 F bx _ s t w_ hn ak.fits Z.len Z.s0 Z.ge aw (DRep_mk hR b2) hs ht ae U.owns) ?_);rintro v28 _ ⟨W3,bD,m3,bi,rfl,bk,b3,bW,au,ba,_⟩;dsimp only [aK,aJ];refine aB 1 rfl<|aZ ?_
         refine cS (a6 (V2+O,gE J W O,bD,m3,W3,v28,bi) (by show (kJ e - (V2+O)).toNat<(kJ e - V2).toNat;omega) ⟨ak,bk,b3,bW,au,ba,aA,fun _=>aA⟩ ?_ ?_ ?_)
         ·exact aF
         ·exact aF
         ·exact aC
    ·refine cN<|cO<|cO<|eC<|dF ?_
     refine cS (a6 (V2,J,L1,F,m2) (by have:=hne (by cases W with|nil=>rfl|cons a b=>simp at c24<;>omega);have:=X.val_le hs ae;show (kJ e - V2).toNat<(kJ e - V).toNat;omega) ⟨X,aA,az,Z.len,aw.len⟩ ?_ ?_ ?_)
     ·exact aF
     ·exact aF
     ·exact aC
  ·refine cN<|cO<|cO<|eC<|bO kh3<|aG fun kh24=>aB 2 rfl<|aD kh24<|aY ?_
   exact bJ [m1'] Tryz.results178 rfl (by repeat (first|exact aP|refine aM ?_|refine cE rfl ?_)) ⟨V,f,L1,_,m1',rfl,rfl,ax,hF,Z,aA,hV,aA⟩
end Go.Proofs.YthpkelafioikaaaGreat
