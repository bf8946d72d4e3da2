import Derived.Test.YthpkelafioikaaaGreatFlyRun
import Derived.Test.YthpkelafioikaaaGreatFlyOps3
import Derived.Test.YthpkelafioikaaaGreatFlyT
namespace Go.Proofs.YthpkelafioikaaaGreat
open Go Go.RowKit Fly
set_option maxRecDepth 100000
set_option maxHeartbeats 4000000
set_option linter.all false
def eQ (e:List Arc) (i:Nat):Arc:=e.getD i ⟨0,0,0⟩
def dL (f:List Int) (i:Nat):Int:=f.getD i 0
theorem p6 {e:List Arc} {i:Nat} (h:i<e.length):eQ e i=e[i]:=by simp [eQ,List.getD_eq_getElem?_getD,h]
theorem flAt_eq {f:List Int} {i:Nat} (h:i<f.length):dL f i=f[i]:=by simp [dL,List.getD_eq_getElem?_getD,h]
def dQ (e:List Arc) (k:Nat):Nat:=if k % 2=0 then (eQ e (k / 2)).src.toNat else (eQ e (k / 2)).dst.toNat
def kto (e:List Arc) (k:Nat):Nat:=if k % 2=0 then (eQ e (k / 2)).dst.toNat else (eQ e (k / 2)).src.toNat
def fN (e:List Arc) (f:List Int) (k:Nat):Int:=if k % 2=0 then (eQ e (k / 2)).wt - dL f (k / 2) else dL f (k / 2)
def net:List Arc→List Int→Nat→Int
 |x::e,y::f,v=>(if x.src.toNat=v then y else 0) - (if x.dst.toNat=v then y else 0)+net e f v
 |_,_,_=>0
def cross (A:Nat→Bool):List Arc→List Int→Int
 |x::e,y::f=>(if A x.src.toNat then y else 0) - (if A x.dst.toNat then y else 0)+cross A e f
 |_,_=>0
def capA (A:Nat→Bool):List Arc→Int
 |x::e=>(if A x.src.toNat&& !A x.dst.toNat then x.wt else 0)+capA A e
 |[]=>0
def jG (g:Nat→Int):Nat→Int
 |0=>0
 |n+1=>jG g n+g n
theorem sumTo_add (g h:Nat→Int):∀ n,jG (fun v=>g v+h v) n=jG g n+jG h n
 |0=>rfl
 |n+1=>by simp only [jG];rw [sumTo_add g h n];omega
theorem sumTo_sub (g h:Nat→Int):∀ n,jG (fun v=>g v - h v) n=jG g n - jG h n
 |0=>rfl
 |n+1=>by simp only [jG];rw [sumTo_sub g h n];omega
theorem sumTo_zero:∀ n,jG (fun _=>0) n=0
 |0=>rfl
 |n+1=>by simp only [jG];rw [sumTo_zero n];rfl
theorem sumTo_congr {g h:Nat→Int}:∀ {n},(∀ v,v<n→g v=h v)→jG g n=jG h n
 |0,_=>rfl
 |n+1,H=>by simp only [jG];rw [sumTo_congr (n:=n) fun v hv=>H v aA,H n aA]
theorem o6 (a:Nat) (y:Int):∀ n,jG (fun v=>if a=v then y else 0) n=if a<n then y else 0
 |0=>by simp [jG]
 |n+1=>by
  simp only [jG];rw [o6 a y n]
  by_cases h:a=n
  ·subst h;simp
  ·rw [if_neg h];by_cases h2:a<n
   ·rw [if_pos h2,if_pos aA];omega
   ·rw [if_neg h2,if_neg aA];omega
theorem sum_side (A:Nat→Bool) (n:Nat):∀ (e:List Arc) (f:List Int),(∀ x∈e,x.src.toNat<n∧x.dst.toNat<n)→jG (fun v=>if A v then net e f v else 0) n=cross A e f
 |[],f,_=>by
  have:(fun v=>if A v then net [] f v else 0)=fun _=>(0:Int):=by funext v;simp [net]
  rw [this,sumTo_zero];simp [cross]
 |x::e,[],_=>by
  have:(fun v=>if A v then net (x::e) [] v else 0)=fun _=>(0:Int):=by funext v;simp [net]
  rw [this,sumTo_zero];simp [cross]
 |x::e,y::f,h=>by
  have F:=h x (List.mem_cons_self ..)
  have ih:=sum_side A n e f fun z hz=>h z (List.mem_cons_of_mem _ hz)
  have e1:(fun v=>if A v then net (x::e) (y::f) v else 0)=fun v=>((if x.src.toNat=v then (if A x.src.toNat then y else 0) else 0) - (if x.dst.toNat=v then (if A x.dst.toNat then y else 0) else 0))+(if A v then net e f v else 0):=by
   funext v
   simp only [net]
   by_cases hs:x.src.toNat=v<;>by_cases hd:x.dst.toNat=v<;>cases hA:A v<;>simp_all
  rw [e1,sumTo_add,sumTo_sub,o6,o6,if_pos F.1,if_pos F.2,ih];simp only [cross]
def pA (A:Nat→Bool):List Arc→List Int→Int
 |x::e,y::f=>(if A x.src.toNat then (if A x.dst.toNat then 0 else x.wt - y) else (if A x.dst.toNat then y else 0))+pA A e f
 |_,_=>0
theorem slack_eq (A:Nat→Bool):∀ (e:List Arc) (f:List Int),e.length=f.length→capA A e - cross A e f=pA A e f
 |[],f,h=>by simp [capA,cross,pA]
 |x::e,[],h=>by simp at h
 |x::e,y::f,h=>by
  have ih:=slack_eq A e f (by simpa using h)
  simp only [capA,cross,pA];cases A x.src.toNat<;>cases A x.dst.toNat<;>simp<;>omega
structure Fits (e:List Arc) (f:List Int):Prop where
 len:f.length=e.length
 rng:∀ i,i<e.length→0≤dL f i∧dL f i≤(eQ e i).wt
theorem Fits.tail {x:Arc} {e:List Arc} {y:Int} {f:List Int} (h:Fits (x::e) (y::f)):Fits e f:=
 ⟨by simpa using h.len,fun i hi=>by have:=h.rng (i+1) (by simpa using hi);simpa [dL,eQ] using this⟩
theorem Fits.head {x:Arc} {e:List Arc} {y:Int} {f:List Int} (h:Fits (x::e) (y::f)):0≤y∧y≤x.wt:=by
 have:=h.rng 0 aO;simpa [dL,eQ] using this
theorem slack_nn (A:Nat→Bool):∀ (e:List Arc) (f:List Int),Fits e f→0≤pA A e f
 |[],f,_=>by simp [pA]
 |x::e,[],_=>by simp [pA]
 |x::e,y::f,h=>by
  have ih:=slack_nn A e f h.tail
  have:=h.head
  simp only [pA]
  split<;>split<;>omega
def Shut (e:List Arc) (f:List Int) (A:Nat→Bool):Prop:=∀ k,k<2*e.length→0<fN e f k→A (dQ e k)=true→A (kto e k)=true
theorem slack_zero (A:Nat→Bool):∀ (e:List Arc) (f:List Int),Fits e f→(pA A e f=0↔∀ i,i<e.length→(A (eQ e i).src.toNat=true→A (eQ e i).dst.toNat=false→dL f i=(eQ e i).wt)∧(A (eQ e i).src.toNat=false→A (eQ e i).dst.toNat=true→dL f i=0))
 |[],f,_=>by simp [pA]
 |x::e,[],h=>by have:=h.len;simp at this
 |x::e,y::f,h=>by
  have ih:=slack_zero A e f h.tail
  have U:=slack_nn A e f h.tail
  have hh:=h.head
  constructor
  ·intro hz i hi
   simp only [pA] at hz
   cases i with
   |zero=>
    have F:eQ (x::e) 0=x:=by simp [eQ]
    have J:dL (y::f) 0=y:=by simp [dL]
    rw [F,J];constructor
    ·intro h1 h2;rw [h1,h2] at hz;simp at hz;omega
    ·intro h1 h2;rw [h1,h2] at hz;simp at hz;omega
   |succ i=>
    have F:eQ (x::e) (i+1)=eQ e i:=by simp [eQ]
    have J:dL (y::f) (i+1)=dL f i:=by simp [dL]
    rw [F,J];refine ih.1 ?_ i (by simpa using hi);cases h1:A x.src.toNat<;>cases h2:A x.dst.toNat<;>rw [h1,h2] at hz<;>simp at hz<;>omega
  ·intro H
   have O:=H 0 aO
   have F:eQ (x::e) 0=x:=by simp [eQ]
   have J:dL (y::f) 0=y:=by simp [dL]
   rw [F,J] at O
   have hr:=ih.2 fun i hi=>by
    have:=H (i+1) (by simpa using hi)
    simpa [eQ,dL] using this
   simp only [pA];cases h1:A x.src.toNat<;>cases h2:A x.dst.toNat<;>simp [h1,h2] at O ⊢<;>omega
theorem slack_shut {A:Nat→Bool} {e:List Arc} {f:List Int} (h:Fits e f):pA A e f=0↔Shut e f A:=by
 rw [slack_zero A e f h];constructor
 ·intro H k hk hl hA
  have hi:=H (k / 2) aA
  have hr:=h.rng (k / 2) aA
  unfold fN at hl;unfold dQ at hA;unfold kto
  split
  ·rename_i h2
   rw [if_pos h2] at hl hA
   cases hb:A (eQ e (k / 2)).dst.toNat with
   |true=>rfl
   |false=>have:=hi.1 hA hb;omega
  ·rename_i h2
   rw [if_neg h2] at hl hA
   cases hb:A (eQ e (k / 2)).src.toNat with
   |true=>rfl
   |false=>have:=hi.2 hb hA;omega
 ·intro H i hi
  have hr:=h.rng i hi
  have J:=H (2*i) aA
  have h1:=H (2*i+1) aA
  unfold fN dQ kto at J h1
  rw [if_pos aA,if_pos aA,if_pos aA,show 2*i / 2=i by omega] at J;rw [if_neg aA,if_neg aA,if_neg aA,show (2*i+1) / 2=i by omega] at h1;constructor
  ·intro a b
   rcases Int.lt_or_le 0 ((eQ e i).wt - dL f i) with hlt|F
   ·rw [J hlt a] at b;cases b
   ·omega
  ·intro a b
   rcases Int.lt_or_le 0 (dL f i) with hlt|F
   ·rw [h1 hlt b] at a;cases a
   ·omega
structure Flow (n:Nat) (e:List Arc) (s t:Nat) (f:List Int) (V:Int):Prop where
 fits:Fits e f
 cons:∀ v,v<n→net e f v=(if s=v then V else 0) - (if t=v then V else 0)
def mQ (n:Nat) (e:List Arc):Prop:=∀ x∈e,x.src.toNat<n∧x.dst.toNat<n
theorem Flow.side {n:Nat} {e:List Arc} {s t:Nat} {f:List Int} {V:Int} (h:Flow n e s t f V) (he:mQ n e) {A:Nat→Bool} (hs:s<n) (hA:A s=true) (hB:A t=false):cross A e f=V:=by
 rw [← sum_side A n e f he]
 have:jG (fun v=>if A v then net e f v else 0) n=jG (fun v=>if s=v then V else 0) n:=sumTo_congr fun v hv=>by
  rw [h.cons v hv]
  by_cases h1:s=v
  ·subst h1
   have:t≠s:=fun e=>by subst e;rw [hA] at hB;cases hB
   simp [hA,this]
  ·by_cases h2:t=v
   ·subst h2;simp [hB,h1]
   ·simp [h1,h2]
 rw [this,o6,if_pos hs]
theorem Flow.le_cut {n:Nat} {e:List Arc} {s t:Nat} {f:List Int} {V:Int} (h:Flow n e s t f V) (he:mQ n e) {A:Nat→Bool} (hs:s<n) (hA:A s=true) (hB:A t=false):V≤capA A e:=by
 have h1:=h.side he hs hA hB
 have h2:=slack_eq A e f h.fits.len.symm
 have h3:=slack_nn A e f h.fits
 omega
theorem Flow.shut {n:Nat} {e:List Arc} {s t:Nat} {f:List Int} {V:Int} (h:Flow n e s t f V) (he:mQ n e) {A:Nat→Bool} (hs:s<n) (hA:A s=true) (hB:A t=false):V=capA A e↔Shut e f A:=by
 have h1:=h.side he hs hA hB
 have h2:=slack_eq A e f h.fits.len.symm
 rw [← slack_shut h.fits];omega
inductive Reach (e:List Arc) (f:List Int) (s:Nat):Nat→Prop
 |refl:Reach e f s s
 |step {k:Nat} (h:Reach e f s (dQ e k)) (hk:k<2*e.length) (hl:0<fN e f k):Reach e f s (kto e k)
theorem Reach.within {e:List Arc} {f:List Int} {s v:Nat} (h:Reach e f s v) {A:Nat→Bool} (hs:A s=true) (hA:Shut e f A):A v=true:=by
 induction h with
 |refl=>exact hs
 |step _ hk hl ih=>exact hA _ hk hl ih
structure Side (n:Nat) (e:List Arc) (s t:Nat) (f:List Int) (A:Nat→Bool):Prop where
 src:A s=true
 dst:A t=false
 shut:Shut e f A
 reach:∀ v,v<n→A v=true→Reach e f s v
theorem Side.same {n:Nat} {e:List Arc} {s t:Nat} {f g:List Int} {V W:Int} {A B:Nat→Bool} (he:mQ n e) (hs:s<n) (hf:Flow n e s t f V) (hg:Flow n e s t g W) (hA:Side n e s t f A) (hB:Side n e s t g B):V=W∧∀ v,v<n→A v=B v:=by
 have O:=(hf.shut he hs hA.src hA.dst).2 hA.shut
 have U:=(hg.shut he hs hB.src hB.dst).2 hB.shut
 have X:=hf.le_cut he hs hB.src hB.dst
 have Y:=hg.le_cut he hs hA.src hA.dst
 have e1:V=W:=aA
 have F:=(hf.shut he hs hB.src hB.dst).1 aA
 have J:=(hg.shut he hs hA.src hA.dst).1 aA
 refine ⟨e1,fun v hv=>?_⟩
 cases h1:A v with
 |true=>exact ((hA.reach v hv h1).within hB.src F).symm
 |false=>
  cases h2:B v with
  |true=>rw [(hB.reach v hv h2).within hA.src J] at h1;cases h1
  |false=>rfl
theorem Side.least {n:Nat} {e:List Arc} {s t:Nat} {f:List Int} {V:Int} {A B:Nat→Bool} (he:mQ n e) (hs:s<n) (hf:Flow n e s t f V) (hA:Side n e s t f A) (h1:B s=true) (h2:B t=false) {u:Nat} (O:u<n) (J:A u=true) (F:B u=false):V<capA B e:=by
 have:=hf.le_cut he hs h1 h2
 rcases Int.lt_or_le V (capA B e) with h|h
 ·exact h
 ·have hB:=(hf.shut he hs h1 h2).1 aA
  rw [(hA.reach u O J).within h1 hB] at F;cases F
def k5 (f:List Int) (k:Nat) (d:Int):List Int:=f.set (k / 2) (dL f (k / 2)+(if k % 2=0 then d else -d))
theorem pY (f:List Int) (k:Nat) (d:Int):(k5 f k d).length=f.length:=by simp [k5]
theorem flAt_push {f:List Int} {k:Nat} {d:Int} (hk:k / 2<f.length) (i:Nat):dL (k5 f k d) i=if k / 2=i then dL f (k / 2)+(if k % 2=0 then d else -d) else dL f i:=by
 unfold k5
 unfold dL
 rw [List.getD_eq_getElem?_getD,List.getElem?_set]
 by_cases h:k / 2=i
 ·rw [if_pos h,if_pos hk,if_pos h];rfl
 ·rw [if_neg h,if_neg h,List.getD_eq_getElem?_getD]
theorem net_set:∀ {e:List Arc} {f:List Int} {i:Nat} (d:Int) (v:Nat),e.length=f.length→i<f.length→
  net e (f.set i (dL f i+d)) v=net e f v+((if (eQ e i).src.toNat=v then d else 0) - (if (eQ e i).dst.toNat=v then d else 0))
 |[],[],_,_,_,_,h=>by simp at h
 |x::e,[],_,_,_,h,_=>by simp at h
 |[],y::f,_,_,_,h,_=>by simp at h
 |x::e,y::f,0,d,v,h,_=>by
  have J:eQ (x::e) 0=x:=by simp [eQ]
  have F:dL (y::f) 0=y:=by simp [dL]
  rw [J,F];simp only [List.set_cons_zero,net]
  split<;>split<;>omega
 |x::e,y::f,i+1,d,v,h,hi=>by
  have J:eQ (x::e) (i+1)=eQ e i:=by simp [eQ]
  have F:dL (y::f) (i+1)=dL f i:=by simp [dL]
  rw [J,F];have:=net_set (e:=e) (f:=f) (i:=i) d v (by simpa using h) (by simpa using hi)
  simp only [List.set_cons_succ,net,this];omega
theorem net_push {e:List Arc} {f:List Int} {k:Nat} (d:Int) (v:Nat) (h:e.length=f.length) (hk:k<2*e.length):net e (k5 f k d) v=net e f v+((if dQ e k=v then d else 0) - (if kto e k=v then d else 0)):=by
 unfold k5
 rw [net_set _ _ h aA]
 unfold dQ kto
 by_cases h2:k % 2=0
 ·simp only [h2,if_true]
 ·simp only [h2,if_false];split<;>split<;>omega
def Way (e:List Arc):Nat→Nat→List Nat→Prop
 |u,t,[]=>u=t
 |u,t,k::r=>k<2*e.length∧dQ e k=u∧Way e (kto e k) t r
theorem Way.snoc {e:List Arc}:∀ {W:List Nat} {u v:Nat} {k:Nat},Way e u v W→k<2*e.length→dQ e k=v→Way e u (kto e k) (W++[k])
 |[],u,v,k,h,hk,hf=>by have:u=v:=h;subst this;exact ⟨hk,hf,rfl⟩
 |j::r,u,v,k,⟨h1,h2,h3⟩,hk,hf=>⟨h1,h2,Way.snoc h3 hk hf⟩
theorem Way.pop {e:List Arc}:∀ {W:List Nat} {u v:Nat} {k:Nat},Way e u v (W++[k])→k<2*e.length∧kto e k=v∧Way e u (dQ e k) W
 |[],u,v,k,⟨h1,h2,h3⟩=>⟨h1,h3,h2.symm⟩
 |j::r,u,v,k,⟨h1,h2,h3⟩=>let ⟨a,b,c⟩:=Way.pop h3;⟨a,b,h1,h2,c⟩
theorem Way.split {e:List Arc}:∀ {W X:List Nat} {u v:Nat},Way e u v (W++X)→∃ m,Way e u m W∧Way e m v X
 |[],X,u,v,h=>⟨u,rfl,h⟩
 |k::r,X,u,v,⟨h1,h2,h3⟩=>let ⟨m,a,b⟩:=Way.split h3;⟨m,⟨h1,h2,a⟩,b⟩
theorem Way.lt {e:List Arc}:∀ {W:List Nat} {u v:Nat},Way e u v W→∀ k,k∈W→k<2*e.length
 |[],_,_,_,k,h=>by simp at h
 |j::r,u,v,⟨h1,_,h3⟩,k,h=>by
  rcases List.mem_cons.1 h with rfl|h
  ·exact h1
  ·exact Way.lt h3 k h
def Up (e:List Arc) (L:List Int) (W:List Nat):Prop:=∀ k,k∈W→dL L (kto e k)=dL L (dQ e k)+1
theorem Way.rise {e:List Arc} {L:List Int}:∀ {W:List Nat} {u v:Nat},Way e u v W→Up e L W→∀ k,k∈W→dL L u≤dL L (dQ e k)
 |[],_,_,_,_,k,h=>by simp at h
 |j::r,u,v,⟨h1,h2,h3⟩,hU,k,h=>by
  rcases List.mem_cons.1 h with rfl|h
  ·rw [h2];exact Int.le_refl _
  ·have:=Way.rise h3 (fun i hi=>hU i (List.mem_cons_of_mem _ hi)) k h
   have:=hU j (List.mem_cons_self ..)
   rw [h2] at this;omega
theorem half_eq {e:List Arc} {j k:Nat} (h:j / 2=k / 2):j=k∨(dQ e j=kto e k∧kto e j=dQ e k):=by
 by_cases hm:j % 2=k % 2
 ·left;omega
 ·right
  unfold dQ kto
  rw [h]
  by_cases h1:j % 2=0
  ·rw [if_pos h1,if_neg aA,if_pos h1,if_neg aA];exact ⟨rfl,rfl⟩
  ·rw [if_neg h1,if_pos aA,if_neg h1,if_pos aA];exact ⟨rfl,rfl⟩
theorem Way.nodup {e:List Arc} {L:List Int}:∀ {W:List Nat} {u v:Nat},Way e u v W→Up e L W→(W.map (· / 2)).Nodup
 |[],_,_,_,_=>aO
 |j::r,u,v,⟨h1,h2,h3⟩,hU=>by
  rw [List.map_cons,List.nodup_cons];have F:Up e L r:=fun i hi=>hU i (List.mem_cons_of_mem _ hi)
  refine ⟨fun hm=>?_,Way.nodup h3 F⟩;obtain ⟨k,hk,J⟩:=List.mem_map.1 hm
  have a:=Way.rise h3 F k hk
  have b:=hU j (List.mem_cons_self ..)
  have c:=hU k (List.mem_cons_of_mem _ hk)
  rcases half_eq (e:=e) J with rfl|⟨d1,d2⟩
  ·omega
  ·rw [d1,d2] at c;omega
def gA (f:List Int) (W:List Nat) (d:Int):List Int:=W.foldl (fun f k=>k5 f k d) f
theorem pushAll_len (W:List Nat) (d:Int):∀ f,(gA f W d).length=f.length:=by
 induction W with
 |nil=>intro f;rfl
 |cons k r ih=>intro f;show (gA (k5 f k d) r d).length=_;rw [ih,pY]
theorem pushAll_snoc (f:List Int) (W:List Nat) (k:Nat) (d:Int):gA f (W++[k]) d=k5 (gA f W d) k d:=by simp [gA]
theorem net_pushAll {e:List Arc} {d:Int}:∀ {W:List Nat} {f:List Int} {u t:Nat},e.length=f.length→Way e u t W→∀ v,net e (gA f W d) v=net e f v+((if u=v then d else 0) - (if t=v then d else 0))
 |[],f,u,t,h,hw,v=>by have:u=t:=hw;subst this;simp [gA]
 |k::r,f,u,t,h,⟨h1,h2,h3⟩,v=>by
  show net e (gA (k5 f k d) r d) v=_
  rw [net_pushAll (by rw [pY];exact h) h3 v,net_push d v h h1,h2];omega
theorem flAt_pushAll {d:Int}:∀ {W:List Nat} {f:List Int} {i:Nat},(∀ k,k∈W→k / 2<f.length)→(∀ k,k∈W→k / 2≠i)→dL (gA f W d) i=dL f i
 |[],f,i,_,_=>rfl
 |k::r,f,i,hl,hn=>by
  show dL (gA (k5 f k d) r d) i=_
  rw [flAt_pushAll (fun j hj=>by rw [pY];exact hl j (List.mem_cons_of_mem _ hj)) fun j hj=>hn j (List.mem_cons_of_mem _ hj),flAt_push (hl k (List.mem_cons_self ..)),if_neg (hn k (List.mem_cons_self ..))]
theorem kleft_rng {e:List Arc} {f:List Int} (h:Fits e f) {k:Nat} (hk:k<2*e.length):0≤fN e f k∧fN e f k≤(eQ e (k / 2)).wt:=by
 have:=h.rng (k / 2) aA
 unfold fN;split<;>omega
theorem Fits.push {e:List Arc} {f:List Int} {k:Nat} {d:Int} (h:Fits e f) (hk:k<2*e.length) (F:0≤d) (hd:d≤fN e f k):Fits e (k5 f k d):=
 ⟨by rw [pY];exact h.len,fun i hi=>by
  rw [flAt_push (by rw [h.len];omega)];have:=h.rng i hi
  split
  ·rename_i e';subst e'
   unfold fN at hd
   by_cases h2:k % 2=0
   ·rw [if_pos h2] at hd ⊢;omega
   ·rw [if_neg h2] at hd ⊢;omega
  ·exact this⟩
theorem kleft_push {e:List Arc} {f:List Int} {j k:Nat} {d:Int} (hk:k / 2<f.length) (h:j / 2≠k / 2):fN e (k5 f k d) j=fN e f j:=by
 have:=flAt_push (d:=d) hk (j / 2)
 rw [if_neg fun h' =>h h'.symm] at this
 unfold fN;rw [this]
theorem fits_pushAll {e:List Arc} {d:Int} (F:0≤d):∀ {W:List Nat} {f:List Int},Fits e f→(W.map (· / 2)).Nodup→(∀ k,k∈W→k<2*e.length∧d≤fN e f k)→Fits e (gA f W d)
 |[],f,h,_,_=>h
 |k::r,f,h,hn,hk=>by
  rw [List.map_cons,List.nodup_cons] at hn;have hkk:=hk k (List.mem_cons_self ..)
  show Fits e (gA (k5 f k d) r d)
  exact fits_pushAll F (h.push hkk.1 F hkk.2) hn.2 fun j hj=>⟨(hk j (List.mem_cons_of_mem _ hj)).1,by
   rw [kleft_push (by rw [h.len];omega) fun e' =>hn.1 (e'▸List.mem_map.2 ⟨j,hj,rfl⟩)]
   exact (hk j (List.mem_cons_of_mem _ hj)).2⟩
theorem Flow.push {n:Nat} {e:List Arc} {s t:Nat} {f:List Int} {V d:Int} {W:List Nat} (h:Flow n e s t f V) (F:0≤d) (hw:Way e s t W) (hn:(W.map (· / 2)).Nodup) (hd:∀ k,k∈W→d≤fN e f k):Flow n e s t (gA f W d) (V+d):=
 ⟨fits_pushAll F h.fits hn fun k hk=>⟨hw.lt k hk,hd k hk⟩,fun v hv=>by
  rw [net_pushAll h.fits.len.symm hw v,h.cons v hv]
  split<;>split<;>omega⟩
theorem net_zero:∀ (e:List Arc) (m:Nat) (v:Nat),net e (List.replicate m 0) v=0
 |[],_,_=>by simp [net]
 |x::e,0,_=>by simp [net]
 |x::e,m+1,v=>by simp only [List.replicate_succ,net];rw [net_zero e m v];split<;>split<;>omega
theorem flAt_zero (m i:Nat):dL (List.replicate m 0) i=0:=by
 unfold dL;rw [List.getD_eq_getElem?_getD,List.getElem?_replicate];split<;>rfl
theorem Flow.zero {n:Nat} {e:List Arc} {s t:Nat} (hw:∀ x∈e,0≤x.wt):Flow n e s t (List.replicate e.length 0) 0:=
 ⟨⟨aO,fun i hi=>by rw [flAt_zero,p6 hi];exact ⟨Int.le_refl _,hw _ (List.getElem_mem hi)⟩⟩,fun v _=>by rw [net_zero];simp⟩
def kO:List Arc→Int
 |x::e=>x.wt+kO e
 |[]=>0
theorem net_le:∀ (e:List Arc) (f:List Int) (v:Nat),Fits e f→net e f v≤kO e
 |[],f,v,_=>by simp [net,kO]
 |x::e,[],v,h=>by have:=h.len;simp at this
 |x::e,y::f,v,h=>by
  have:=net_le e f v h.tail
  have:=h.head
  simp only [net,kO]
  split<;>split<;>omega
theorem capSum_le (c:Int):∀ (e:List Arc),(∀ x∈e,x.wt≤c)→kO e≤e.length*c
 |[],_=>by simp [kO]
 |x::e,h=>by
  have:=capSum_le c e fun y hy=>h y (List.mem_cons_of_mem _ hy)
  have:=h x (List.mem_cons_self ..)
  simp only [kO,List.length_cons];rw [show ((e.length+1:Nat):Int)*c=e.length*c+c by rw [Int.natCast_add,Int.add_mul];simp];omega
theorem Flow.val_le {n:Nat} {e:List Arc} {s t:Nat} {f:List Int} {V:Int} (h:Flow n e s t f V) (hs:s<n) (F:s≠t):V≤kO e:=by
 have h1:=h.cons s hs
 rw [if_pos rfl,if_neg (fun e=>F e.symm)] at h1;have:=net_le e f s h.fits
 omega
end Go.Proofs.YthpkelafioikaaaGreat
namespace Go.Proofs.YthpkelafioikaaaGreat
open Go Fly
set_option linter.unusedVariables false
set_option linter.unusedSimpArgs false
theorem jW {L:List Int} {u:Nat} (h:u<L.length) (x:Int) (v:Nat):dL (L.set u x) v=if u=v then x else dL L v:=by
 unfold dL
 rw [List.getD_eq_getElem?_getD,List.getElem?_set]
 by_cases e:u=v
 ·rw [if_pos e,if_pos h,if_pos e];rfl
 ·rw [if_neg e,if_neg e,List.getD_eq_getElem?_getD]
def unl (L:List Int):Nat:=L.countP (fun x=>decide (x<0))
theorem unl_set:∀ {L:List Int} {i:Nat} {x:Int},i<L.length→dL L i<0→0≤x→unl (L.set i x)+1=unl L
 |y::L,0,x,_,h,hx=>by
  have hy:y<0:=by simpa [dL] using h
  simp [unl,hy,List.countP_cons,show ¬ x<0 by omega]
 |y::L,i+1,x,hi,h,hx=>by
  have:=unl_set (L:=L) (i:=i) (x:=x) (by simpa using hi) (by simpa [dL] using h) hx
  unfold unl at this ⊢
  simp only [List.set_cons_succ,List.countP_cons];omega
structure LayB (n:Nat) (e:List Arc) (s:Nat) (f L:List Int) (work:List Nat) (P:Nat→Prop):Prop where
 len:L.length=n
 ge:∀ v,v<n→-1≤dL L v
 s0:dL L s=0
 pred:∀ v,v<n→0≤dL L v→v≠s→∃ k,k<2*e.length∧0<fN e f k∧kto e k=v∧0≤dL L (dQ e k)∧dL L v=dL L (dQ e k)+1
 wk:∀ v,v∈work→v<n∧0≤dL L v
 cl:∀ k,k<2*e.length→0<fN e f k→0≤dL L (dQ e k)→dQ e k∉work→P k→0≤dL L (kto e k)
variable {n:Nat} {e:List Arc} {s t:Nat} {f L:List Int} {work:List Nat} {P:Nat→Prop}
theorem flAt_rep {n:Nat} {x:Int} {v:Nat} (h:v<n):dL (List.replicate n x) v=x:=by
 unfold dL;rw [List.getD_eq_getElem?_getD,List.getElem?_replicate,if_pos h];rfl
theorem nR (he:mQ n e) {k:Nat} (hk:k<2*e.length):dQ e k<n:=by
 have:=he _ (List.getElem_mem (show k / 2<e.length by omega))
 unfold dQ;rw [p6 aA];split<;>omega
theorem kto_lt (he:mQ n e) {k:Nat} (hk:k<2*e.length):kto e k<n:=by
 have:=he _ (List.getElem_mem (show k / 2<e.length by omega))
 unfold kto;rw [p6 aA];split<;>omega
theorem LayB.begin (he:mQ n e) (hs:s<n):LayB n e s f ((List.replicate n (-1)).set s 0) [s] (fun _=>True):=by
 have G:∀ v,v<n→dL ((List.replicate n (-1)).set s 0) v=if s=v then 0 else -1:=fun v hv=>by rw [jW (by simpa using hs),flAt_rep hv]
 refine ⟨aO,fun v hv=>by rw [G v hv];split<;>omega,by rw [G s hs,if_pos rfl],fun v hv h F=>?_,fun v hv=>?_,fun k hk hl hf hn _=>?_⟩
 ·rw [G v hv,if_neg (fun e=>F e.symm)] at h;omega
 ·simp at hv;subst hv;exact ⟨hs,by rw [G v hs,if_pos rfl];exact Int.le_refl _⟩
 ·have hlt:=nR he hk
  rw [G _ hlt] at hf
  split at hf
  ·rename_i e';exact absurd (by rw [← e'];simp) hn
  ·omega
theorem LayB.pop {v:Nat} (h:LayB n e s f L (v::work) (fun _=>True)):LayB n e s f L work (fun k=>dQ e k≠v):=
 ⟨h.len,h.ge,h.s0,h.pred,fun u J=>h.wk u (List.mem_cons_of_mem _ J),fun k hk hl hf hn F=>h.cl k hk hl hf (by simp;exact ⟨F,hn⟩) trivial⟩
theorem LayB.weaken {Q:Nat→Prop} (h:LayB n e s f L work P) (hq:∀ k,k<2*e.length→Q k→P k):LayB n e s f L work Q:=
 ⟨h.len,h.ge,h.s0,h.pred,h.wk,fun k hk hl hf hn F=>h.cl k hk hl hf hn (hq k hk F)⟩
theorem LayB.see {k:Nat} (h:LayB n e s f L work P) (he:mQ n e) (hk:k<2*e.length) (hf:0≤dL L (dQ e k)) (hu:dL L (kto e k)<0) (hl:0<fN e f k):
  LayB n e s f (L.set (kto e k) (dL L (dQ e k)+1)) (work++[kto e k]) (fun j=>P j∨j=k):=by
 have Z:=kto_lt he hk
 have aa:=nR he hk
 have G:∀ v,dL (L.set (kto e k) (dL L (dQ e k)+1)) v=if kto e k=v then dL L (dQ e k)+1 else dL L v:=fun v=>jW (by rw [h.len];exact Z) _ v
 refine ⟨by simpa using h.len,fun v hv=>?_,?_,fun v hv F Y=>?_,fun v hv=>?_,fun j hj U J O X=>?_⟩
 ·rw [G];split
  ·omega
  ·exact h.ge v hv
 ·rw [G,if_neg (fun e' =>by rw [e',h.s0] at hu;omega)];exact h.s0
 ·rw [G] at F ⊢
  split at F
  ·rename_i e'
   rw [if_pos e'];refine ⟨k,hk,hl,e',?_,?_⟩
   ·rw [G,if_neg (fun e2=>by rw [← e2] at hf;omega)];exact hf
   ·rw [G,if_neg (fun e2=>by rw [← e2] at hf;omega)]
  ·rename_i e'
   rw [if_neg e'];obtain ⟨j,a,b,c,d,g⟩:=h.pred v hv F Y
   refine ⟨j,a,b,c,?_,?_⟩
   ·rw [G,if_neg (fun e2=>by rw [← e2] at d;omega)];exact d
   ·rw [G,if_neg (fun e2=>by rw [← e2] at d;omega)];exact g
 ·rw [G]
  rcases List.mem_append.1 hv with hv|hv
  ·have:=h.wk v hv
   split
   ·exact ⟨this.1,aA⟩
   ·exact this
  ·simp at hv;subst hv;rw [if_pos rfl];exact ⟨Z,aA⟩
 ·simp only [List.mem_append,List.mem_singleton,not_or] at O
  rw [G] at J ⊢;rw [if_neg (fun e' =>O.2 e'.symm)] at J
  split
  ·omega
  ·rename_i e'
   rcases X with X|rfl
   ·exact h.cl j hj U J O.1 X
   ·exact absurd rfl e'
theorem LayB.skip {k:Nat} (h:LayB n e s f L work P) (hn:¬ (dL L (kto e k)<0∧0<fN e f k)):LayB n e s f L work (fun j=>P j∨j=k):=
 ⟨h.len,h.ge,h.s0,h.pred,h.wk,fun j hj J O F U=>by
  rcases U with U|rfl
  ·exact h.cl j hj J O F U
  ·omega⟩
structure Lay (n:Nat) (e:List Arc) (s:Nat) (f L:List Int):Prop where
 len:L.length=n
 ge:∀ v,v<n→-1≤dL L v
 s0:dL L s=0
 pred:∀ v,v<n→0≤dL L v→v≠s→∃ k,k<2*e.length∧0<fN e f k∧kto e k=v∧0≤dL L (dQ e k)∧dL L v=dL L (dQ e k)+1
 cl:∀ k,k<2*e.length→0<fN e f k→0≤dL L (dQ e k)→0≤dL L (kto e k)
theorem LayB.done (h:LayB n e s f L [] (fun _=>True)):Lay n e s f L:=⟨h.len,h.ge,h.s0,h.pred,fun k hk hl hf=>h.cl k hk hl hf aO trivial⟩
theorem Lay.reach (h:Lay n e s f L) (he:mQ n e):∀ (m:Nat) (v:Nat),v<n→dL L v=(m:Int)→Reach e f s v
 |0,v,hv,hm=>by
  by_cases F:v=s
  ·subst F;exact .refl
  ·obtain ⟨k,a,b,c,d,g⟩:=h.pred v hv aA F;omega
 |m+1,v,hv,hm=>by
  by_cases F:v=s
  ·subst F;exact .refl
  ·obtain ⟨k,a,b,c,d,g⟩:=h.pred v hv aA F
   have:=Lay.reach h he m (dQ e k) (nR he a) aA
   rw [← c];exact .step this a b
theorem Lay.side (h:Lay n e s f L) (he:mQ n e) (F:dL L t<0):Side n e s t f (fun v=>decide (0≤dL L v)) where
 src:=by simp [h.s0]
 dst:=by simp;exact F
 shut:=fun k hk hl hA=>by simp at hA ⊢;exact h.cl k hk hl hA
 reach:=fun v hv hA=>by
  simp at hA;exact h.reach he (dL L v).toNat v hv aA
def jP (e:List Arc) (j v:Nat):List Int:=((List.range j).filter (fun k=>dQ e k==v)).map (fun k:Nat=>(k:Int))
def pT (e:List Arc) (n j:Nat):List (List Int):=(List.range n).map (jP e j)
theorem kR (e:List Arc) (n j:Nat):(pT e n j).length=n:=by simp [pT]
theorem lJ {e:List Arc} {n j v:Nat} (h:v<(pT e n j).length):(pT e n j)[v]=jP e j v:=by simp [pT]
theorem kRow_next (e:List Arc) (j v:Nat):jP e (j+1) v=if dQ e j=v then jP e j v++[(j:Int)] else jP e j v:=by
 unfold jP
 rw [List.range_succ,List.filter_append,List.map_append]
 by_cases h:dQ e j=v
 ·rw [if_pos h];simp [h]
 ·rw [if_neg h];simp [h]
theorem kRows_next {e:List Arc} {n j:Nat} (h:dQ e j<n):(pT e n j).set (dQ e j) (jP e j (dQ e j)++[(j:Int)])=pT e n (j+1):=by
 refine List.ext_getElem (by simp [pT]) fun v h1 h2=>?_;rw [List.getElem_set,lJ,lJ,kRow_next]
 split
 ·rename_i e';subst e';rfl
 ·rfl
theorem kRows_zero (e:List Arc) (n:Nat):pT e n 0=List.replicate n []:=by
 refine List.ext_getElem (by simp [pT]) fun v h1 h2=>by rw [lJ];simp [jP]
theorem kRow_mem {e:List Arc} {j v:Nat} {x:Int} (h:x∈jP e j v):∃ k:Nat,x=k∧k<j∧dQ e k=v:=by
 unfold jP at h
 obtain ⟨k,hk,rfl⟩:=List.mem_map.1 h
 rw [List.mem_filter] at hk;exact ⟨k,rfl,by simpa using hk.1,by simpa using hk.2⟩
theorem kRow_has {e:List Arc} {j k:Nat} (h:k<j):(k:Int)∈jP e j (dQ e k):=by
 unfold jP
 exact List.mem_map.2 ⟨k,List.mem_filter.2 ⟨by simpa using h,aO⟩,rfl⟩
theorem kRow_len (e:List Arc) (j v:Nat):(jP e j v).length≤j:=by
 unfold jP;rw [List.length_map];exact Nat.le_trans (List.length_filter_le _ _) aO
abbrev row (e:List Arc) (v:Nat):List Int:=jP e (2*e.length) v
theorem row_at {e:List Arc} {v i:Nat} (h:i<(row e v).length):∃ k:Nat,(row e v)[i]=(k:Int)∧k<2*e.length∧dQ e k=v:=kRow_mem (List.getElem_mem h)
def Good (e:List Arc) (f L:List Int) (k:Nat):Prop:=0<fN e f k∧dL L (kto e k)=dL L (dQ e k)+1
structure Nx (n:Nat) (e:List Arc) (nx:List Int):Prop where
 len:nx.length=n
 rng:∀ v,v<n→0≤dL nx v∧dL nx v≤((row e v).length:Int)
def Dead (e:List Arc) (t:Nat) (nx:List Int) (v:Nat):Prop:=dL nx v=((row e v).length:Int)∧v≠t
def Past (n:Nat) (e:List Arc) (t:Nat) (f L nx:List Int):Prop:=∀ v,v<n→∀ (j k:Nat),(j:Int)<dL nx v→(row e v)[j]? =some (k:Int)→Good e f L k→Dead e t nx (kto e k)
structure Wy (n:Nat) (e:List Arc) (s:Nat) (f L nx:List Int) (W:List Nat) (v:Nat):Prop where
 way:Way e s v W
 good:∀ k,k∈W→Good e f L k
 cur:∀ k,k∈W→(row e (dQ e k))[(dL nx (dQ e k)).toNat]? =some (k:Int)
 nx:Nx n e nx
variable {nx:List Int} {W:List Nat} {v:Nat}
theorem Wy.up (h:Wy n e s f L nx W v):Up e L W:=fun k hk=>(h.good k hk).2
theorem Way.end_lt {L:List Int}:∀ {W:List Nat} {u v:Nat},Way e u v W→Up e L W→∀ k,k∈W→dL L (dQ e k)<dL L v
 |[],_,_,_,_,k,h=>by simp at h
 |j::r,u,v,⟨h1,h2,h3⟩,hU,k,h=>by
  have F:Up e L r:=fun i hi=>hU i (List.mem_cons_of_mem _ hi)
  have hj:=hU j (List.mem_cons_self ..)
  rcases List.mem_cons.1 h with rfl|h
  ·cases r with
   |nil=>have:kto e k=v:=h3;rw [← this];omega
   |cons i r=>
    have:=Way.end_lt h3 F i (List.mem_cons_self ..)
    have:=Way.rise h3 F i (List.mem_cons_self ..)
    omega
  ·exact Way.end_lt h3 F k h
theorem Nx.step (h:Nx n e nx) (hv:v<n) (hlt:dL nx v<((row e v).length:Int)):Nx n e (nx.set v (dL nx v+1)):=
 ⟨by simpa using h.len,fun u F=>by
  rw [jW (by rw [h.len];exact hv)];have:=h.rng v hv
  split
  ·rename_i e';subst e';omega
  ·exact h.rng u F⟩
theorem Past.step (h:Past n e t f L nx) (hx:Nx n e nx) (hv:v<n) (hlt:dL nx v<((row e v).length:Int)) (hd:∀ k:Nat,(row e v)[(dL nx v).toNat]? =some (k:Int)→Good e f L k→Dead e t nx (kto e k)):
  Past n e t f L (nx.set v (dL nx v+1)):=by
 have G:∀ u,dL (nx.set v (dL nx v+1)) u=if v=u then dL nx v+1 else dL nx u:=fun u=>jW (by rw [hx.len];exact hv) _ u
 have D:∀ u,Dead e t nx u→Dead e t (nx.set v (dL nx v+1)) u:=fun u ⟨a,b⟩=>⟨by rw [G,if_neg (fun e' =>by subst e';omega)];exact a,b⟩
 intro u F j k hj hk hg;refine D _ ?_;rw [G] at hj
 split at hj
 ·rename_i e'
  subst e'
  by_cases h1:(j:Int)<dL nx v
  ·exact h v hv j k h1 hk hg
  ·have:=hx.rng v hv
   have:(dL nx v).toNat=j:=aA
   exact hd k (by rw [this];exact hk) hg
 ·exact h u F j k hj hk hg
theorem Wy.pass (h:Wy n e s f L nx W v) (hv:v<n) (hlt:dL nx v<((row e v).length:Int)):Wy n e s f L (nx.set v (dL nx v+1)) W v:=
 ⟨h.way,h.good,fun k hk=>by
  have:=h.way.end_lt h.up k hk
  rw [jW (by rw [h.nx.len];exact hv),if_neg (fun e' =>by rw [← e'] at this;omega)]
  exact h.cur k hk,h.nx.step hv hlt⟩
theorem Wy.on {k:Nat} (h:Wy n e s f L nx W v) (hk:k<2*e.length) (hf:dQ e k=v) (hr:(row e v)[(dL nx v).toNat]? =some (k:Int)) (hg:Good e f L k):Wy n e s f L nx (W++[k]) (kto e k):=
 ⟨h.way.snoc hk hf,fun j hj=>by
  rcases List.mem_append.1 hj with hj|hj
  ·exact h.good j hj
  ·simp at hj;subst hj;exact hg,fun j hj=>by
  rcases List.mem_append.1 hj with hj|hj
  ·exact h.cur j hj
  ·simp at hj;subst hj;rw [hf];exact hr,h.nx⟩
theorem Wy.back {k:Nat} (h:Wy n e s f L nx (W++[k]) v):k<2*e.length∧kto e k=v∧Wy n e s f L nx W (dQ e k):=
 let ⟨a,b,c⟩:=h.way.pop
 ⟨a,b,c,fun j hj=>h.good j (List.mem_append_left _ hj),fun j hj=>h.cur j (List.mem_append_left _ hj),h.nx⟩
theorem Wy.lt {k:Nat} (h:Wy n e s f L nx (W++[k]) v):dL nx (dQ e k)<((row e (dQ e k)).length:Int):=by
 have:=h.cur k aO
 have h1:=(List.getElem?_eq_some_iff.1 this).1
 omega
theorem no_dead (h:Lay n e s f L) (he:mQ n e) (hx:Nx n e nx) (hp:Past n e t f L nx) (hd:Dead e t nx s):∀ (m:Nat) (v:Nat),v<n→dL L v=(m:Int)→Dead e t nx v
 |0,v,hv,hm=>by
  by_cases F:v=s
  ·subst F;exact hd
  ·obtain ⟨k,a,b,c,d,g⟩:=h.pred v hv aA F;omega
 |m+1,v,hv,hm=>by
  by_cases F:v=s
  ·subst F;exact hd
  ·obtain ⟨k,a,b,c,d,g⟩:=h.pred v hv aA F
   have hk:=no_dead h he hx hp hd m (dQ e k) (nR he a) aA
   obtain ⟨j,hj,J⟩:=List.mem_iff_getElem.1 (kRow_has (e:=e) a)
   rw [← c];exact hp (dQ e k) (nR he a) j k (by rw [hk.1];exact_mod_cast hj) (by rw [List.getElem?_eq_getElem hj,J]) ⟨b,by rw [c];exact g⟩
theorem way_there (h:Lay n e s f L) (he:mQ n e) (F:t<n) (J:0≤dL L t) (hx:Nx n e nx) (hp:Past n e t f L nx) (hd:Dead e t nx s):False:=
 (no_dead h he hx hp hd (dL L t).toNat t F aA).2 rfl
theorem Past.start (n:Nat) (e:List Arc) (t:Nat) (f L:List Int):Past n e t f L (List.replicate n 0):=fun v hv j k hj _ _=>by rw [flAt_zero] at hj;omega
theorem Nx.start (n:Nat) (e:List Arc):Nx n e (List.replicate n 0):=⟨aO,fun v hv=>by rw [flAt_zero];omega⟩
def remN (n:Nat) (e:List Arc) (nx:List Int):Int:=jG (fun v=>((row e v).length:Int) - dL nx v) n
theorem remN_step (h:Nx n e nx) (hv:v<n):remN n e (nx.set v (dL nx v+1))=remN n e nx - 1:=by
 unfold remN
 have:jG (fun u=>((row e u).length:Int) - dL (nx.set v (dL nx v+1)) u) n=jG (fun u=>(((row e u).length:Int) - dL nx u) - (if v=u then 1 else 0)) n:=sumTo_congr fun u F=>by
  rw [jW (by rw [h.len];exact hv)]
  split
  ·rename_i e';subst e';omega
  ·omega
 rw [this,sumTo_sub,o6,if_pos hv]
theorem sumTo_nn {g:Nat→Int}:∀ {n},(∀ v,v<n→0≤g v)→0≤jG g n
 |0,_=>Int.le_refl _
 |n+1,h=>by have:=sumTo_nn (n:=n) fun v hv=>h v aA;have:=h n aA;simp only [jG];omega
theorem remN_nn (h:Nx n e nx):0≤remN n e nx:=sumTo_nn fun v hv=>by have:=h.rng v hv;omega
def topL:List Int→Nat
 |[]=>0
 |x::r=>x.toNat+topL r
theorem topL_ge:∀ (L:List Int) (v:Nat),dL L v≤(topL L:Int)
 |[],v=>by simp [dL,topL]
 |x::r,0=>by simp [dL,topL];omega
 |x::r,v+1=>by have:=topL_ge r v;simp [dL,topL] at this ⊢;omega
def oZ (n:Nat) (e:List Arc) (L nx:List Int) (v:Nat):Nat:=(remN n e nx).toNat*(topL L+3)+(topL L+1 - dL L v).toNat
theorem wayMu_on {k:Nat} (hg:Good e f L k) (hf:dQ e k=v) (h:Nx n e nx):oZ n e L nx (kto e k)<oZ n e L nx v:=by
 unfold oZ
 have:=topL_ge L (kto e k)
 have:=hg.2
 rw [hf] at this;omega
theorem wayMu_pass {u:Nat} (h:Nx n e nx) (hv:v<n) (hlt:dL nx v<((row e v).length:Int)) (F: -1≤dL L u) (w:Nat):oZ n e L (nx.set v (dL nx v+1)) u<oZ n e L nx w:=by
 unfold oZ
 have h1:=remN_step h hv
 have h2:=remN_nn (h.step hv hlt)
 have e1:(remN n e nx).toNat=(remN n e (nx.set v (dL nx v+1))).toNat+1:=aA
 rw [e1,Nat.add_mul];have:=topL_ge L w
 omega
end Go.Proofs.YthpkelafioikaaaGreat
namespace Go.Proofs.YthpkelafioikaaaGreat
open Go Go.RowKit Fly
set_option maxRecDepth 100000
set_option maxHeartbeats 4000000
set_option linter.all false
structure NOk (n:Nat) (e:List Arc):Prop where
 n1:1≤n∧n≤1024
 len:e.length≤16384
 good:∀ k (hk:k<e.length),0≤e[k].src∧e[k].src<(n:Int)∧0≤e[k].dst∧e[k].dst<(n:Int)
 ok:∀ x∈e,eN x
theorem NOk.net {n:Nat} {e:List Arc} (h:NOk n e):mQ n e:=fun x hx=>by
 obtain ⟨j,hj,rfl⟩:=List.mem_iff_getElem.1 hx
 have:=h.good j hj;omega
theorem NOk.at_ {n:Nat} {e:List Arc} (h:NOk n e) {i:Nat} (hi:i<e.length):0≤(eQ e i).src∧(eQ e i).src<(n:Int)∧0≤(eQ e i).dst∧(eQ e i).dst<(n:Int)∧0≤(eQ e i).wt∧(eQ e i).wt≤4294967295:=by
 have:=h.good i hi
 have:=(h.ok _ (List.getElem_mem hi)).wt
 rw [p6 hi];omega
def ecs (p:Arc×Int):List Value:=[.int .i64 p.1.src,.int .i64 p.1.dst,.int .u32 (p.1.wt - p.2),.int .u32 p.2]
theorem ecs_len (p:Arc×Int):(ecs p).length=4:=rfl
def gY (e:List Arc) (f:List Int):List Value:=(List.zip e f).flatMap ecs
theorem zip_at {e:List Arc} {f:List Int} {i:Nat} (h:f.length=e.length) (hi:i<e.length):∃ h' :i<(List.zip e f).length,(List.zip e f)[i]=(eQ e i,dL f i):=
 ⟨by simp;omega,by rw [List.getElem_zip,p6 hi,flAt_eq aA]⟩
theorem ecells_at {e:List Arc} {f:List Int} {i j:Nat} (h:f.length=e.length) (hi:i<e.length) (hj:j<4):(gY e f)[i*4+j]? =(ecs (eQ e i,dL f i))[j]? :=by
 obtain ⟨h',he⟩:=zip_at h hi
 unfold gY
 rw [i1 ecs ecs_len _ i j h' hj,he]
theorem nV {e:List Arc} {f:List Int} (h:f.length=e.length):(gY e f).length=e.length*4:=by
 unfold gY;rw [dX ecs ecs_len];simp [h]
theorem ecells_to {n:Nat} {e:List Arc} {f:List Int} {k:Nat} (hn:NOk n e) (h:f.length=e.length) (hk:k<2*e.length):(gY e f)[k / 2*4+(1 - k % 2)]? =some (.int .i64 ((kto e k:Nat):Int)):=by
 rw [ecells_at h aA aA];have:=hn.at_ (i:=k / 2) aA
 unfold kto ecs
 by_cases h2:k % 2=0
 ·rw [if_pos h2,h2];simp;omega
 ·rw [if_neg h2,show k % 2=1 by omega];simp;omega
theorem ecells_left {e:List Arc} {f:List Int} {k:Nat} (h:f.length=e.length) (hk:k<2*e.length):(gY e f)[k / 2*4+2+k % 2]? =some (.int .u32 (fN e f k)):=by
 rw [Nat.add_assoc,ecells_at h aA aA]
 unfold fN ecs
 by_cases h2:k % 2=0
 ·rw [if_pos h2,h2];simp
 ·rw [if_neg h2,show k % 2=1 by omega];simp
theorem ecells_snoc {e:List Arc} {i:Nat} (h:i<e.length):gY (e.take (i+1)) (List.replicate (i+1) 0)=gY (e.take i) (List.replicate i 0)++[.int .i64 e[i].src,.int .i64 e[i].dst,.int .u32 e[i].wt,.int .u32 0]:=by
 unfold gY
 rw [List.take_succ_eq_append_getElem h,List.replicate_succ',List.zip_append (by simp;omega),List.flatMap_append];simp [ecs]
abbrev gR (ve:Value) (n bat bl bn:Nat):List Value:=[ve,.slice (some ⟨bat,0,none⟩) n n,.slice (some ⟨bl,0,none⟩) n n,.slice (some ⟨bn,0,none⟩) n n]
abbrev mA (bx bat bl bn n:Nat) (ve:Value) (vs:List Value) (G me:Seg) (L nx:List Int):List Seg:=
 [[(bx,blk (gR ve n bat bl bn) 290)],[(bat,blk vs 25)],G,me,[(bl,blk (a8 L) 3)],[(bn,blk (a8 nx) 3)]]
def DRep (n:Nat) (e:List Arc) (f L nx:List Int) (bx:Nat) (m:Seg):Prop:=
 ∃ bat bl bn ve vs ms me,m.Perm (mA bx bat bl bn n ve vs ms.flatten me L nx).flatten∧RowsI 3 (pT e n (2*e.length)) vs ms∧Own 301 4 ve e.length (gY e f) me
theorem DRep_mk {n:Nat} {e:List Arc} {f L nx:List Int} {bx bat bl bn:Nat} {ve:Value} {vs:List Value} {ms:List Seg} {me:Seg} (F:RowsI 3 (pT e n (2*e.length)) vs ms) (J:Own 301 4 ve e.length (gY e f) me):
  DRep n e f L nx bx (mA bx bat bl bn n ve vs ms.flatten me L nx).flatten:=⟨bat,bl,bn,ve,vs,ms,me,List.Perm.refl _,F,J⟩
theorem ints0 (n:Nat):(List.replicate n [Value.int .i64 0]).flatten=a8 (List.replicate n 0):=by
 induction n with
 |zero=>rfl
 |succ n ih=>simp only [List.replicate_succ,List.flatten_cons,ih];rfl
theorem nils (n:Nat):(List.replicate n [Value.slice none 0 0]).flatten=List.replicate n (Value.slice none 0 0):=by
 induction n with
 |zero=>rfl
 |succ n ih=>simp only [List.replicate_succ,List.flatten_cons,ih];rfl
theorem lK {E:TypeId} {v:Value} {l:List Int} {x:Int} {m:Seg}:Own E 1 v (l.length+1) (a8 l++[.int .i64 x]) m=Own E 1 v (l++[x]).length (a8 (l++[x])) m:=by rw [eL,List.length_append];rfl
theorem kfrom_even (e:List Arc) (i:Nat):dQ e (2*i)=(eQ e i).src.toNat:=by unfold dQ;rw [if_pos aA,show 2*i / 2=i by omega]
theorem kfrom_odd (e:List Arc) (i:Nat):dQ e (2*i+1)=(eQ e i).dst.toNat:=by unfold dQ;rw [if_neg aA,show (2*i+1) / 2=i by omega]
theorem shr_one {k:Nat} (h:k<4294967296):(k:Int).fdiv (2 ^ (min ((1:Int).toNat) IntKind.i64.bits))=((k / 2:Nat):Int):=by
 show (k:Int).fdiv 2=_
 rw [Int.fdiv_eq_ediv_of_nonneg _ (by decide)];omega
theorem to_spec (n:Nat) (e:List Arc) (f:List Int) (bx bat bl bn k cap:Nat) (A:Option Addr) (w:World) (hx:Ro (Fr w []) w (some ⟨bx,0,none⟩) (gR (.slice A e.length cap) n bat bl bn)) (he:Ro (Fr w []) w A (gY e f)) (hn:NOk n e) (hf:f.length=e.length) (hk:k<2*e.length):
    Meets Tryz.prog 198 [.pointer (some ⟨bx,0,none⟩),.int .i64 (k:Int)] w [] (fun u m=>u= .int .i64 ((kto e k:Nat):Int)∧m=[]):=by
 obtain ⟨b',o',e',U,F⟩:=hx aO
 obtain ⟨rfl,rfl⟩:bx=b'∧0=o' :=by cases e';exact ⟨rfl,rfl⟩
 obtain ⟨be,X,rfl,J,O⟩:=he (by intro Y;have:=nV hf;rw [Y] at this;simp at this;omega)
 have Z:=hn.len
 refine bG Tryz.func198 rfl Tryz.ntmps198 rfl Owns.nil<|aG fun kh1=>aB 1 rfl<|aD kh1<|aG fun kh2=>aB 1 rfl<|f_Q (dD rfl)<|cN qS rfl<|f_Q (aH Tryz.isAgg288 rfl (rdS U (F 0 _ rfl)))<|aB 1 rfl ?_
 refine f_Q (o_shr rfl rfl (by decide) ((k / 2:Nat):Int) (shr_one aA)) ?_;refine aB 1 rfl<|f_Q (o_and rfl rfl ((k % 2:Nat):Int) (and_one aA))<|f_Q (jK rfl rfl)<|f_Q (aM sl288 rfl rfl (X+k / 2*4))<|cN fa301_0 rfl<|f_Q (o_idxA ar237 rfl rfl (X+k / 2*4+(1 - k % 2)) ⟨aA,aA,mac_fo⟩)<|f_Q (aH Tryz.isAgg3 rfl (rdS J (by have:=O _ _ (ecells_to hn hf hk);rwa [← Nat.add_assoc] at this))) ?_
 refine aB 1 rfl<|aD kh2<|aZ ?_
 exact bO [] Tryz.results198 rfl aP ⟨rfl,rfl⟩
theorem left_spec (n:Nat) (e:List Arc) (f:List Int) (bx bat bl bn k cap:Nat) (A:Option Addr) (w:World) (hx:Ro (Fr w []) w (some ⟨bx,0,none⟩) (gR (.slice A e.length cap) n bat bl bn)) (he:Ro (Fr w []) w A (gY e f)) (hn:NOk n e) (hf:f.length=e.length) (hk:k<2*e.length):
    Meets Tryz.prog 193 [.pointer (some ⟨bx,0,none⟩),.int .i64 (k:Int)] w [] (fun u m=>u= .int .u32 (fN e f k)∧m=[]):=by
 obtain ⟨b',o',e',U,F⟩:=hx aO
 obtain ⟨rfl,rfl⟩:bx=b'∧0=o' :=by cases e';exact ⟨rfl,rfl⟩
 obtain ⟨be,X,rfl,J,O⟩:=he (by intro Y;have:=nV hf;rw [Y] at this;simp at this;omega)
 have Z:=hn.len
 refine bG Tryz.func193 rfl Tryz.ntmps193 rfl Owns.nil<|aG fun kh1=>aB 1 rfl<|aD kh1<|aG fun kh2=>aB 1 rfl<|f_Q (dD rfl)<|cN qS rfl<|f_Q (aH Tryz.isAgg288 rfl (rdS U (F 0 _ rfl)))<|aB 1 rfl ?_
 refine f_Q (o_shr rfl rfl (by decide) ((k / 2:Nat):Int) (shr_one aA)) ?_;refine aB 1 rfl<|f_Q (o_and rfl rfl ((k % 2:Nat):Int) (and_one aA))<|f_Q (aM sl288 rfl rfl (X+k / 2*4))<|cN fa301_1 rfl<|f_Q (o_idxA ar299 rfl rfl (X+k / 2*4+2+k % 2) ⟨aA,aA,mac_fo⟩)<|f_Q (aH Tryz.isAgg56 rfl (rdS J (by have:=O _ _ (ecells_left hf hk);rwa [← Nat.add_assoc,← Nat.add_assoc] at this))) ?_
 refine aB 1 rfl<|aD kh2<|aZ ?_
 exact bO [] Tryz.results193 rfl aP ⟨rfl,rfl⟩
theorem fbegin_spec (n:Nat) (A:Option Addr) (e:List Arc) (cap:Nat) (w:World) (hr:Ro (Fr w []) w A (e.flatMap cH)) (hn:NOk n e):
    Meets Tryz.prog 177 [.agg #[.int .i64 (n:Int),.slice A e.length cap]] w [] (fun u own' =>∃ bx m,u= .pointer (some ⟨bx,0,none⟩)∧own' =[m]∧DRep n e (List.replicate e.length 0) (List.replicate n 0) (List.replicate n 0) bx m):=by
 have br:=hn.n1
 have bk:=hn.len
 refine bG Tryz.func177 rfl Tryz.ntmps177 rfl Owns.nil<|aG fun kh1=>f_S (cZ rfl rfl fun b1=>?_)
 refine aB 1 rfl<|aD kh1 ?_
 refine oU (α:=Nat×Nat×Nat×Nat) [1] (fun ⟨bx,bat,bl,bn⟩=>[(3,.pointer (some ⟨bx,0,none⟩))]) (fun ⟨bx,bat,bl,bn⟩=>[[(bx,blk (gR (.slice none 0 0) n bat bl bn) 290)],[(bat,blk (List.replicate n (.slice none 0 0)) 25)],[(bl,blk (a8 (List.replicate n 0)) 3)],[(bn,blk (a8 (List.replicate n 0)) 3)],[(b1,blk [.int .i64 (n:Int),.slice A e.length cap] 265)]]) (fun ⟨bx,bat,bl,bn⟩=>True) ?_ ?_
 ·
  intro K2 aj;refine cQ [[(b1,blk [.int .i64 (n:Int),.slice A e.length cap] 265)]] rfl<|f_T 0 rfl (aT lW rfl)<|f_T 1 rfl (aH Tryz.isAgg3 rfl (rdA rfl))<|f_T 3 rfl (aT lW rfl)<|f_T 4 rfl (aH Tryz.isAgg3 rfl (rdA rfl))<|f_T 6 rfl (aT lW rfl)<|f_T 7 rfl (aH Tryz.isAgg3 rfl (rdA rfl))<|f_three 2 5 8 rfl rfl rfl aU rfl rfl rfl rfl rfl rfl rfl rfl rfl ?_ ?_ ?_
  ·
   refine (e6 el32 rfl rfl n rfl aA aA (List.replicate n (.slice none 0 0)) (nils n) fun b8=>⟨aC,?_⟩);refine gD 5 8 rfl rfl aU rfl rfl rfl rfl rfl rfl ?_ ?_
   ·
    refine (e6 eO rfl rfl n rfl aA aA (a8 (List.replicate n 0)) (ints0 n) fun J=>⟨aC,?_⟩);refine f_O 8 rfl (e6 eO rfl rfl n rfl aA aA (a8 (List.replicate n 0)) (ints0 n) fun F=>⟨aC,?_⟩);refine f_T 9 rfl (dU (cs:=gR (.slice none 0 0) n b8 J F) st290 rfl (by kernel_rfl)) ?_;refine f_O 10 rfl (cZ rfl rfl fun ac=>⟨aC,?_⟩);refine f_O 11 rfl ((bI rfl).does ⟨aC,?_⟩);refine cO aU<|cV (aj _ _ (ac,b8,J,F) trivial ?_ ?_ ?_)
    · exact aF
    · exact aF
    · exact aC
   ·
    refine (e6 eO rfl rfl n rfl aA aA (a8 (List.replicate n 0)) (ints0 n) fun F=>⟨aC,?_⟩);refine f_O 5 rfl (e6 eO rfl rfl n rfl aA aA (a8 (List.replicate n 0)) (ints0 n) fun J=>⟨aC,?_⟩);refine f_T 9 rfl (dU (cs:=gR (.slice none 0 0) n b8 J F) st290 rfl (by kernel_rfl)) ?_;refine f_O 10 rfl (cZ rfl rfl fun ac=>⟨aC,?_⟩);refine f_O 11 rfl ((bI rfl).does ⟨aC,?_⟩);refine cO aU<|cV (aj _ _ (ac,b8,J,F) trivial ?_ ?_ ?_)
    · exact aF
    · exact aF
    · exact aC
  ·
   refine (e6 eO rfl rfl n rfl aA aA (a8 (List.replicate n 0)) (ints0 n) fun J=>⟨aC,?_⟩);refine gD 2 8 rfl rfl aU rfl rfl rfl rfl rfl rfl ?_ ?_
   ·
    refine (e6 el32 rfl rfl n rfl aA aA (List.replicate n (.slice none 0 0)) (nils n) fun b8=>⟨aC,?_⟩);refine f_O 8 rfl (e6 eO rfl rfl n rfl aA aA (a8 (List.replicate n 0)) (ints0 n) fun F=>⟨aC,?_⟩);refine f_T 9 rfl (dU (cs:=gR (.slice none 0 0) n b8 J F) st290 rfl (by kernel_rfl)) ?_;refine f_O 10 rfl (cZ rfl rfl fun ac=>⟨aC,?_⟩);refine f_O 11 rfl ((bI rfl).does ⟨aC,?_⟩);refine cO aU<|cV (aj _ _ (ac,b8,J,F) trivial ?_ ?_ ?_)
    · exact aF
    · exact aF
    · exact aC
   ·
    refine (e6 eO rfl rfl n rfl aA aA (a8 (List.replicate n 0)) (ints0 n) fun F=>⟨aC,?_⟩);refine f_O 2 rfl (e6 el32 rfl rfl n rfl aA aA (List.replicate n (.slice none 0 0)) (nils n) fun b8=>⟨aC,?_⟩);refine f_T 9 rfl (dU (cs:=gR (.slice none 0 0) n b8 J F) st290 rfl (by kernel_rfl)) ?_;refine f_O 10 rfl (cZ rfl rfl fun ac=>⟨aC,?_⟩);refine f_O 11 rfl ((bI rfl).does ⟨aC,?_⟩);refine cO aU<|cV (aj _ _ (ac,b8,J,F) trivial ?_ ?_ ?_)
    · exact aF
    · exact aF
    · exact aC
  ·
   refine (e6 eO rfl rfl n rfl aA aA (a8 (List.replicate n 0)) (ints0 n) fun F=>⟨aC,?_⟩);refine gD 2 5 rfl rfl aU rfl rfl rfl rfl rfl rfl ?_ ?_
   ·
    refine (e6 el32 rfl rfl n rfl aA aA (List.replicate n (.slice none 0 0)) (nils n) fun b8=>⟨aC,?_⟩);refine f_O 5 rfl (e6 eO rfl rfl n rfl aA aA (a8 (List.replicate n 0)) (ints0 n) fun J=>⟨aC,?_⟩);refine f_T 9 rfl (dU (cs:=gR (.slice none 0 0) n b8 J F) st290 rfl (by kernel_rfl)) ?_;refine f_O 10 rfl (cZ rfl rfl fun ac=>⟨aC,?_⟩);refine f_O 11 rfl ((bI rfl).does ⟨aC,?_⟩);refine cO aU<|cV (aj _ _ (ac,b8,J,F) trivial ?_ ?_ ?_)
    · exact aF
    · exact aF
    · exact aC
   ·
    refine (e6 eO rfl rfl n rfl aA aA (a8 (List.replicate n 0)) (ints0 n) fun J=>⟨aC,?_⟩);refine f_O 2 rfl (e6 el32 rfl rfl n rfl aA aA (List.replicate n (.slice none 0 0)) (nils n) fun b8=>⟨aC,?_⟩);refine f_T 9 rfl (dU (cs:=gR (.slice none 0 0) n b8 J F) st290 rfl (by kernel_rfl)) ?_;refine f_O 10 rfl (cZ rfl rfl fun ac=>⟨aC,?_⟩);refine f_O 11 rfl ((bI rfl).does ⟨aC,?_⟩);refine cO aU<|cV (aj _ _ (ac,b8,J,F) trivial ?_ ?_ ?_)
    · exact aF
    · exact aF
    · exact aC
 ·
  rintro ⟨bx,bat,bl,bn⟩ _;refine aV fun kh3=>aG fun bc=>cN fa265_1 rfl<|c7 Tryz.isAgg263 rfl (rdA rfl)<|dY sl263 rfl<|aB 1 rfl<|aD bc<|aS ?_
  refine dF (α:=Nat×Value×Seg×List Value×List Seg) [3,18,19] (fun ⟨i,ve,me,vs,ms⟩=>[(20,.int .i64 (i:Int))]) (fun ⟨i,ve,me,vs,ms⟩=>[[(bx,blk (gR ve n bat bl bn) 290)],me,[(bat,blk vs 25)],ms.flatten,[(bl,blk (a8 (List.replicate n 0)) 3)],[(bn,blk (a8 (List.replicate n 0)) 3)],[(b1,blk [.int .i64 (n:Int),.slice A e.length cap] 265)]]) (fun ⟨i,ve,me,vs,ms⟩=>i≤e.length∧Own 301 4 ve i (gY (e.take i) (List.replicate i 0)) me∧RowsI 3 (pT e n (2*i)) vs ms) (fun ⟨i,ve,me,vs,ms⟩=>e.length - i) (0,.slice none 0 0,[],List.replicate n (.slice none 0 0),List.replicate n []) ?_ ?_ ?_ ?_
  · exact aF
  · dsimp only
    rw [show (List.replicate n ([]:Seg)).flatten=[] from by simp];exact aC
  · exact ⟨Nat.zero_le _,Own.nil _ _,by rw [kRows_zero];exact RowsI.start _ n⟩
  ·
   rintro ⟨i,ve,me,vs,ms⟩ ⟨bq,hE,hR⟩;refine fJ (e:=[(20,_),(3,_),(18,_),(19,_)]) aF ?_;refine aG fun kh5=>aB 1 rfl<|aD kh5<|aV fun kh6=>aX rfl (fun bh=>?_) (fun bh=>?_)
   ·
    refine bZ kh6<|aV fun kh7=>aS<|aG fun kh8=>aB 1 rfl ?_
    have hi:i<e.length:=aA
    obtain ⟨ax,off,rfl,hS,hc⟩:=hr (fH cH dO aA hi)
    have bt:=hn.good i hi
    have ap:=p6 hi
    have a2:dQ e (2*i)<n:=by rw [kfrom_even,ap];omega
    have az:dQ e (2*i+1)<n:=by rw [kfrom_odd,ap];omega
    have bp:e[i].src=((dQ e (2*i):Nat):Int):=by rw [kfrom_even,ap];omega
    have bi:e[i].dst=((dQ e (2*i+1):Nat):Int):=by rw [kfrom_odd,ap];omega
    refine f_Q (aM sl263 rfl rfl (off+i*3))<|f_Q (aQ (vs:=cH e[i]) Tryz.isAgg267 Tryz.sizeOf267 rfl rfl (gV dO hS hc hi))<|f_S (cX Tryz.zeroValue267 rfl fun b5=>?_)
    refine aB 1 rfl<|f_Z (bS Tryz.sizeOf267 rfl rfl rfl rfl cG (cH e[i]) rfl ?_)
    refine aD kh8 ?_;refine oU (α:=Value×Seg) [3,4,5,18,19,20] (fun ⟨O,X⟩=>[]) (fun ⟨O,X⟩=>[[(bx,blk (gR O n bat bl bn) 290)],X,[(bat,blk vs 25)],ms.flatten,[(bl,blk (a8 (List.replicate n 0)) 3)],[(bn,blk (a8 (List.replicate n 0)) 3)],[(b5,blk (cH e[i]) 267)],[(b1,blk [.int .i64 (n:Int),.slice (some ⟨ax,off,none⟩) e.length cap] 265)]]) (fun ⟨O,X⟩=>Own 301 4 O (i+1) (gY (e.take i) (List.replicate i 0)++[.int .i64 e[i].src,.int .i64 e[i].dst,.int .u32 e[i].wt,.int .u32 0]) X) ?_ ?_
    ·
     intro K9 ay;refine cQ [[(b5,blk (cH e[i]) 267)]] rfl<|f_T 0 rfl (aR rfl)<|f_T 1 rfl (aR rfl)<|f_T 2 rfl (dD rfl)<|f_T 3 rfl (aT qS rfl)<|f_T 5 rfl (aT fa267_0 rfl)<|f_T 6 rfl (aH Tryz.isAgg3 rfl (rdA rfl))<|f_T 7 rfl (aT fa267_1 rfl)<|f_T 8 rfl (aH Tryz.isAgg3 rfl (rdA rfl))<|f_T 9 rfl (o_buildA (cs:=[.int .i64 e[i].src,.int .i64 e[i].dst]) ar237 rfl (by kernel_rfl)) ?_
     refine f_T 10 rfl (aT fa267_2 rfl)<|f_T 11 rfl (aH Tryz.isAgg56 rfl (rdA rfl))<|f_T 12 rfl (o_buildA (cs:=[.int .u32 e[i].wt,.int .u32 0]) ar299 rfl (by kernel_rfl)) ?_
     refine f_T 13 rfl (dU (cs:=[.int .i64 e[i].src,.int .i64 e[i].dst,.int .u32 e[i].wt,.int .u32 0]) st301 rfl (by kernel_rfl)) ?_;refine gD 4 14 rfl rfl aU rfl rfl rfl rfl rfl rfl ?_ ?_
     ·
      refine (aH Tryz.isAgg288 rfl (rdA rfl)).does ⟨aC,?_⟩;refine f_O 14 rfl (bX el288 aA rfl rfl rfl fun bg=>⟨aC,?_⟩);refine f_O 15 rfl (dJ el288 rfl rfl hE (ys:=[.int .i64 e[i].src,.int .i64 e[i].dst,.int .u32 e[i].wt,.int .u32 0]) ⟨(rdA rfl),(rdA rfl),(rdA rfl),(rdA rfl),trivial⟩ rfl rfl aA aA fun O X ag=>⟨aC,?_⟩);obtain ⟨am,aa,rfl,_⟩:=ag.val
      refine f_T 16 rfl (dD rfl)<|f_T 17 rfl (aT qS rfl)<|fX 18 rfl (bQ Tryz.sizeOf288 rfl rfl rfl rfl cG (gR (.slice am (i+1) aa) n bat bl bn) rfl ⟨aC,?_⟩)
      refine cO aU<|cV (ay _ _ (.slice am (i+1) aa,X) ag ?_ ?_ ?_)
      · exact aF
      · exact aF
      · exact aC
     ·
      refine (bX el288 aA rfl rfl rfl fun bg=>⟨aC,?_⟩);refine f_O 4 rfl ((aH Tryz.isAgg288 rfl (rdA rfl)).does ⟨aC,?_⟩);refine f_O 15 rfl (dJ el288 rfl rfl hE (ys:=[.int .i64 e[i].src,.int .i64 e[i].dst,.int .u32 e[i].wt,.int .u32 0]) ⟨(rdA rfl),(rdA rfl),(rdA rfl),(rdA rfl),trivial⟩ rfl rfl aA aA fun O X ag=>⟨aC,?_⟩);obtain ⟨am,aa,rfl,_⟩:=ag.val
      refine f_T 16 rfl (dD rfl)<|f_T 17 rfl (aT qS rfl)<|fX 18 rfl (bQ Tryz.sizeOf288 rfl rfl rfl rfl cG (gR (.slice am (i+1) aa) n bat bl bn) rfl ⟨aC,?_⟩)
      refine cO aU<|cV (ay _ _ (.slice am (i+1) aa,X) ag ?_ ?_ ?_)
      · exact aF
      · exact aF
      · exact aC
    ·
     rintro ⟨O,X⟩ ag;obtain ⟨rv,rm,rG,ao,ae,ar,ab⟩:=hR.split (i:=dQ e (2*i)) (by rw [kR];omega)
     rw [lJ] at ae;have au:=kRow_len e (2*i) (dQ e (2*i))
     obtain ⟨Ar,cr,rfl,a1⟩:=ae.val
     refine eP (Sub.splitF ar) ?_;refine oU (α:=Value×Seg) [3,4,5,18,19,20] (fun ⟨Y,U⟩=>[]) (fun ⟨Y,U⟩=>[[(bx,blk (gR O n bat bl bn) 290)],X,[(bat,blk (vs.set (dQ e (2*i)) Y) 25)],U,rG,[(bl,blk (a8 (List.replicate n 0)) 3)],[(bn,blk (a8 (List.replicate n 0)) 3)],[(b5,blk (cH e[i]) 267)],[(b1,blk [.int .i64 (n:Int),.slice (some ⟨ax,off,none⟩) e.length cap] 265)]]) (fun ⟨Y,U⟩=>Own 3 1 Y ((jP e (2*i) (dQ e (2*i))).length+1) (a8 (jP e (2*i) (dQ e (2*i)))++[.int .i64 ((2*i:Nat):Int)]) U) ?_ ?_
     ·
      intro bj aq;refine cQ [[(bx,blk (gR O n bat bl bn) 290)],[(b5,blk (cH e[i]) 267)]] rfl<|f_T 0 rfl (aR rfl)<|f_T 1 rfl (dD rfl)<|f_T 2 rfl (aT qR rfl)<|f_T 3 rfl (aH Tryz.isAgg32 rfl (rdA rfl))<|f_T 4 rfl (aT fa267_0 rfl)<|f_T 5 rfl (aH Tryz.isAgg3 rfl (rdA rfl))<|f_T 6 rfl (aR rfl)<|f_T 7 rfl (dD rfl)<|f_T 8 rfl (aT qR rfl) ?_
      refine f_T 9 rfl (aH Tryz.isAgg32 rfl (rdA rfl))<|f_T 10 rfl (aT fa267_0 rfl)<|f_T 11 rfl (aH Tryz.isAgg3 rfl (rdA rfl))<|f_T 12 rfl (aM g5 rfl rfl (dQ e (2*i)))<|f_T 14 rfl (aR rfl)<|f_T 15 rfl (o_mul rfl rfl _ (show IntKind.i64.wrap (2*(i:Int))=((2*i:Nat):Int) from by rw [d8 aA];omega)) ?_
      refine gD 13 16 rfl rfl aU rfl rfl rfl rfl rfl rfl ?_ ?_
      ·
       refine (aH Tryz.isAgg25 rfl (rdA ao)).does ⟨aC,?_⟩;refine f_O 16 rfl (bX eO aA rfl rfl rfl fun be=>⟨aC,?_⟩);refine f_O 17 rfl (dJ eO rfl rfl ae (ys:=[.int .i64 ((2*i:Nat):Int)]) ⟨(rdA rfl),trivial⟩ rfl rfl aA aA fun Y U ah=>⟨aC,?_⟩);obtain ⟨al,ad,rfl,_⟩:=ah.val
       refine f_T 18 rfl (aM g5 rfl rfl (dQ e (2*i)))<|fX 19 rfl (bQ Tryz.sizeOf25 rfl rfl rfl rfl (by have:=hR.lv;rw [kR] at this;omega) (vs.set (dQ e (2*i)) (.slice al ((jP e (2*i) (dQ e (2*i))).length+1) ad)) rfl ⟨aC,?_⟩)
       refine cO aU<|cV (aq _ _ (.slice al ((jP e (2*i) (dQ e (2*i))).length+1) ad,U) ah ?_ ?_ ?_)
       · exact aF
       · exact aF
       · exact aC
      ·
       refine (bX eO aA rfl rfl rfl fun be=>⟨aC,?_⟩);refine f_O 13 rfl ((aH Tryz.isAgg25 rfl (rdA ao)).does ⟨aC,?_⟩);refine f_O 17 rfl (dJ eO rfl rfl ae (ys:=[.int .i64 ((2*i:Nat):Int)]) ⟨(rdA rfl),trivial⟩ rfl rfl aA aA fun Y U ah=>⟨aC,?_⟩);obtain ⟨al,ad,rfl,_⟩:=ah.val
       refine f_T 18 rfl (aM g5 rfl rfl (dQ e (2*i)))<|fX 19 rfl (bQ Tryz.sizeOf25 rfl rfl rfl rfl (by have:=hR.lv;rw [kR] at this;omega) (vs.set (dQ e (2*i)) (.slice al ((jP e (2*i) (dQ e (2*i))).length+1) ad)) rfl ⟨aC,?_⟩)
       refine cO aU<|cV (aq _ _ (.slice al ((jP e (2*i) (dQ e (2*i))).length+1) ad,U) ah ?_ ?_ ?_)
       · exact aF
       · exact aF
       · exact aC
     ·
      rintro ⟨Y,U⟩ ah;have av:=(ab _ _ _ (by rw [← lK];exact ah)).1
      rw [kRows_next a2] at av;refine eP (Sub.joinF (m:=U) (G' :=rG) (ab _ _ _ (by rw [← lK];exact ah)).2) ?_;obtain ⟨rv,rm,rG,ao,ae,ar,ab⟩:=av.split (i:=dQ e (2*i+1)) (by rw [kR];omega)
      rw [lJ] at ae;have au:=kRow_len e (2*i+1) (dQ e (2*i+1))
      obtain ⟨Ar,cr,rfl,a1⟩:=ae.val
      refine eP (Sub.splitF ar)<|cQ [[(bx,blk (gR O n bat bl bn) 290)],[(b5,blk (cH e[i]) 267)]] rfl<|f_T 0 rfl (aR rfl)<|f_T 1 rfl (dD rfl)<|f_T 2 rfl (aT qR rfl)<|f_T 3 rfl (aH Tryz.isAgg32 rfl (rdA rfl))<|f_T 4 rfl (aT fa267_1 rfl)<|f_T 5 rfl (aH Tryz.isAgg3 rfl (rdA rfl))<|f_T 6 rfl (aR rfl)<|f_T 7 rfl (dD rfl) ?_;refine f_T 8 rfl (aT qR rfl)<|f_T 9 rfl (aH Tryz.isAgg32 rfl (rdA rfl))<|f_T 10 rfl (aT fa267_1 rfl)<|f_T 11 rfl (aH Tryz.isAgg3 rfl (rdA rfl))<|f_T 12 rfl (aM g5 rfl rfl (dQ e (2*i+1)))<|f_T 14 rfl (aR rfl)<|f_T 15 rfl (o_mul rfl rfl _ (show IntKind.i64.wrap (2*(i:Int))=((2*i:Nat):Int) from by rw [d8 aA];omega)) ?_
      refine f_T 16 rfl (kY rfl rfl _ (show IntKind.i64.wrap (((2*i:Nat):Int)+1)=((2*i+1:Nat):Int) from by rw [d8 aA];omega)) ?_;refine gD 13 17 rfl rfl aU rfl rfl rfl rfl rfl rfl ?_ ?_
      ·
       refine (aH Tryz.isAgg25 rfl (rdA ao)).does ⟨aC,?_⟩;refine f_O 17 rfl (bX eO aA rfl rfl rfl fun bf=>⟨aC,?_⟩);refine f_O 18 rfl (dJ eO rfl rfl ae (ys:=[.int .i64 ((2*i+1:Nat):Int)]) ⟨(rdA rfl),trivial⟩ rfl rfl aA aA fun ba ak ai=>⟨aC,?_⟩);obtain ⟨an,Z,rfl,_⟩:=ai.val
       refine f_T 19 rfl (aM g5 rfl rfl (dQ e (2*i+1)))<|fX 20 rfl (bQ Tryz.sizeOf25 rfl rfl rfl rfl (by have:=hR.lv;rw [kR] at this;rw [List.length_set];omega) ((vs.set (dQ e (2*i)) Y).set (dQ e (2*i+1)) (.slice an ((jP e (2*i+1) (dQ e (2*i+1))).length+1) Z)) rfl ⟨aC,?_⟩)
       refine cO aU<|dI<|bP kh7<|aI<|f_Q (bF rfl rfl)<|aB 1 rfl<|aY<|gN (Sub.joinF (m:=ak) (G' :=rG) (ab _ _ _ (by rw [← lK];exact ai)).2) ?_
       refine cV (a6 (i+1,O,X,(vs.set (dQ e (2*i)) Y).set (dQ e (2*i+1)) (.slice an ((jP e (2*i+1) (dQ e (2*i+1))).length+1) Z),(ms.set (dQ e (2*i)) U).set (dQ e (2*i+1)) ak) (by first|omega|(dsimp only;omega)|(simp;omega)) ⟨aA,by rw [ecells_snoc hi];exact ag,by
         have:=(ab _ _ _ (by rw [← lK];exact ai)).1
         rw [kRows_next az] at this;exact this⟩ ?_ ?_ ?_)
       · exact aF
       · exact aF
       · exact aC
      ·
       refine (bX eO aA rfl rfl rfl fun bf=>⟨aC,?_⟩);refine f_O 13 rfl ((aH Tryz.isAgg25 rfl (rdA ao)).does ⟨aC,?_⟩);refine f_O 18 rfl (dJ eO rfl rfl ae (ys:=[.int .i64 ((2*i+1:Nat):Int)]) ⟨(rdA rfl),trivial⟩ rfl rfl aA aA fun ba ak ai=>⟨aC,?_⟩);obtain ⟨an,Z,rfl,_⟩:=ai.val
       refine f_T 19 rfl (aM g5 rfl rfl (dQ e (2*i+1)))<|fX 20 rfl (bQ Tryz.sizeOf25 rfl rfl rfl rfl (by have:=hR.lv;rw [kR] at this;rw [List.length_set];omega) ((vs.set (dQ e (2*i)) Y).set (dQ e (2*i+1)) (.slice an ((jP e (2*i+1) (dQ e (2*i+1))).length+1) Z)) rfl ⟨aC,?_⟩)
       refine cO aU<|dI<|bP kh7<|aI<|f_Q (bF rfl rfl)<|aB 1 rfl<|aY<|gN (Sub.joinF (m:=ak) (G' :=rG) (ab _ _ _ (by rw [← lK];exact ai)).2) ?_
       refine cV (a6 (i+1,O,X,(vs.set (dQ e (2*i)) Y).set (dQ e (2*i+1)) (.slice an ((jP e (2*i+1) (dQ e (2*i+1))).length+1) Z),(ms.set (dQ e (2*i)) U).set (dQ e (2*i+1)) ak) (by first|omega|(dsimp only;omega)|(simp;omega)) ⟨aA,by rw [ecells_snoc hi];exact ag,by
         have:=(ab _ _ _ (by rw [← lK];exact ai)).1
         rw [kRows_next az] at this;exact this⟩ ?_ ?_ ?_)
       · exact aF
       · exact aF
       · exact aC
   ·
    refine cS<|cU<|cU<|eH<|bP kh3<|aG fun kh11=>aB 2 rfl<|aD kh11<|aZ ?_
    have aw:i=e.length:=aA
    subst aw;rw [List.take_length] at hE;exact bO [(mA bx bat bl bn n ve vs ms.flatten me (List.replicate n 0) (List.replicate n 0)).flatten] Tryz.results177 rfl (Sub.flatF (by unfold mA;repeat (first|exact aP|refine aL ?_|refine bV rfl ?_))) ⟨bx,_,rfl,rfl,DRep_mk hR hE⟩
def nI (W:List Nat):List Int:=W.map (fun i:Nat=>(i:Int))
theorem nI_len (W:List Nat):(a8 (nI W)).length=W.length:=by simp [nI,a8]
theorem nI_snoc (W:List Nat) (k:Nat):a8 (nI (W++[k]))=a8 (nI W)++[.int .i64 (k:Int)]:=by simp [nI,a8]
theorem k3 {l:List Int} {i:Nat} (h:i<l.length):(a8 l)[i]? =some (.int .i64 (dL l i)):=by rw [d9 h,flAt_eq h]
theorem pU (l:List Int) (i:Nat) (x:Int):(a8 l).set i (.int .i64 x)=a8 (l.set i x):=by simp [a8,List.map_set]
def mixL (k:Nat) (x:Int) (l:List Int):List Int:=List.replicate k x++l.drop k
theorem mixL_len {k:Nat} {x:Int} {l:List Int} (h:k≤l.length):(mixL k x l).length=l.length:=by simp [mixL];omega
theorem mixL_set {k:Nat} {x:Int} {l:List Int} (h:k<l.length):(a8 (mixL k x l)).set k (.int .i64 x)=a8 (mixL (k+1) x l):=by
 rw [pU]
 congr 1
 unfold mixL
 rw [List.drop_eq_getElem_cons h,List.set_append_right _ _ aO,show k - (List.replicate k x).length=0 by simp,List.set_cons_zero,List.replicate_succ',List.append_assoc]
 rfl
theorem mixL_all {k:Nat} {x:Int} {l:List Int} (h:k=l.length):mixL k x l=List.replicate l.length x:=by subst h;simp [mixL]
theorem unl_rep (n:Nat):unl (List.replicate n (-1))=n:=by
 induction n with
 |zero=>rfl
 |succ n ih=>rw [List.replicate_succ];unfold unl at ih ⊢;rw [List.countP_cons,ih];simp
theorem unl_begin {n s:Nat} (hs:s<n):unl ((List.replicate n (-1)).set s 0)+1=n:=by
 rw [unl_set (by simpa using hs) (by rw [flAt_rep hs];decide) (Int.le_refl _),unl_rep]
theorem take_nextI {l:List Int} {j:Nat} {x:Int} (hj:j<l.length) (h:x∈l.take (j+1)):x∈l.take j∨x=l[j]:=by
 rw [List.take_succ_eq_append_getElem hj] at h
 rcases List.mem_append.1 h with h|h
 ·exact .inl h
 ·exact .inr (by simpa using h)
theorem layers_spec (n:Nat) (e:List Arc) (f L nx:List Int) (bx:Nat) (m:Seg) (s t:Nat) (w:World) (hn:NOk n e) (hf:Fits e f) (hL:L.length=n) (hx:nx.length=n) (hS:DRep n e f L nx bx m) (hs:s<n) (ht:t<n) (hw:Owns w [m]):
    Meets Tryz.prog 191 [.pointer (some ⟨bx,0,none⟩),.int .i64 (s:Int),.int .i64 (t:Int)] w [m] (fun u own' =>∃ L' m',own' =[m']∧DRep n e f L' (List.replicate n 0) bx m'∧Lay n e s f L'∧u= .bool (decide (0≤dL L' t))):=by
 have bi:=hn.n1
 have bk:=hn.len
 refine bG Tryz.func191 rfl Tryz.ntmps191 rfl hw ?_;obtain ⟨bat,bl,bn,ve,vs,ms,me,ar,hR,hE⟩:=hS
 obtain ⟨A,cap,rfl,_⟩:=hE.val
 refine eP (Sub.permF ar) ?_
 unfold mA
 refine aG fun kh1=>aB 1 rfl<|aD kh1<|aV fun kh2=>aG fun ap=>aB 1 rfl<|f_Q (dD rfl)<|cN lV rfl<|c7 Tryz.isAgg25 rfl (rdA rfl)<|dY bU rfl ?_
 refine aB 1 rfl<|aD ap<|aS ?_
 refine dF (α:=Nat) [0,1,2,17] (fun k=>[(18,.int .i64 (k:Int))]) (fun k=>[[(bx,blk (gR (.slice A e.length cap) n bat bl bn) 290)],[(bat,blk vs 25)],ms.flatten,me,[(bl,blk (a8 (mixL k (-1) L)) 3)],[(bn,blk (a8 (mixL k 0 nx)) 3)]]) (fun k=>k≤n) (fun k=>n - k) (0) ?_ ?_ ?_ ?_
 · exact aF
 · exact aC
 · exact Nat.zero_le _
 ·
  rintro k bj;refine aG fun kh4=>aB 1 rfl<|aD kh4<|aV fun kh5=>aX rfl (fun a2=>?_) (fun a2=>?_)
  ·
   refine bZ kh5<|aV fun kh6=>aS<|aG fun kh7=>aB 2 rfl<|aD kh7<|cQ [[(bx,blk (gR (.slice A e.length cap) n bat bl bn) 290)]] rfl ?_
   have hk:k<n:=aA
   refine f_T 0 rfl (aR rfl)<|f_T 1 rfl (dD rfl)<|f_T 2 rfl (aT lV rfl)<|f_T 3 rfl (aH Tryz.isAgg25 rfl (rdA rfl))<|f_T 4 rfl (aR rfl)<|f_T 5 rfl (aR rfl)<|f_T 6 rfl (dD rfl)<|f_T 7 rfl (aT fa290_3 rfl)<|f_T 8 rfl (aH Tryz.isAgg25 rfl (rdA rfl))<|f_T 9 rfl (aR rfl) ?_
   refine f_T 10 rfl (aM bU rfl rfl (k))<|fX 11 rfl (bQ Tryz.sizeOf3 rfl rfl rfl rfl (by rw [a7,mixL_len aA];omega) (a8 (mixL (k+1) (-1) L)) (mixL_set aA) ⟨aC,?_⟩)
   refine f_T 12 rfl (aM bU rfl rfl (k))<|fX 13 rfl (bQ Tryz.sizeOf3 rfl rfl rfl rfl (by rw [a7,mixL_len aA];omega) (a8 (mixL (k+1) 0 nx)) (mixL_set aA) ⟨aC,?_⟩)
   refine cO aU<|dI<|bP kh6<|aI<|f_Q (bF rfl rfl)<|aB 1 rfl<|aY ?_
   refine cV (a6 (k+1) (by first|omega|(dsimp only;omega)|(simp;omega)) aA ?_ ?_ ?_)
   · exact aF
   · exact aF
   · exact aC
  ·
   refine cS<|cU<|cU<|eH<|bP kh2<|aG fun kh8=>aB 1 rfl<|f_Q (dD rfl)<|cN lV rfl<|c7 Tryz.isAgg25 rfl (rdA rfl) ?_
   refine aB 1 rfl<|f_Q (aM bU rfl rfl (s))<|f_Z (bQ Tryz.sizeOf3 rfl rfl rfl rfl (by rw [a7,mixL_len aA];omega) (a8 ((List.replicate n (-1)).set s 0)) (by rw [mixL_all aA,hL];exact pU ..) ?_)
   refine aD kh8<|aG fun kh9=>aB 1 rfl<|f_S (bX eO aA rfl rfl rfl fun b41=>?_)
   refine aB 1 rfl<|aD kh9<|aV fun kh10=>aS ?_
   have aw:mixL k 0 nx=List.replicate n 0:=by rw [mixL_all aA,hx]
   rw [aw];refine dF (α:=List Int×List Nat×Value×Seg) [0,2] (fun ⟨L2,work,wv,wm⟩=>[(8,wv)]) (fun ⟨L2,work,wv,wm⟩=>[[(bx,blk (gR (.slice A e.length cap) n bat bl bn) 290)],[(bat,blk vs 25)],ms.flatten,me,[(bl,blk (a8 L2) 3)],[(bn,blk (a8 (List.replicate n 0)) 3)],wm]) (fun ⟨L2,work,wv,wm⟩=>LayB n e s f L2 work (fun _=>True)∧OwnQ 3 wv (a8 (nI work)) wm∧unl L2+work.length≤n∧∀ u,u<n→dL L2 u+unl L2≤n) (fun ⟨L2,work,wv,wm⟩=>2*unl L2+work.length) ((List.replicate n (-1)).set s 0,[s],.slice (some ⟨b41,0,none⟩) 1 1,[(b41,blk [.int .i64 (s:Int)] 3)]) ?_ ?_ ?_ ?_
   · exact aF
   · exact aC
   · exact ⟨LayB.begin hn.net hs,OwnQ.one _ _ _,by have:=unl_begin hs;simp;omega,fun u hu=>by
     have:=unl_begin hs
     rw [jW (by simpa using hs),flAt_rep hu]
     split<;>omega⟩
   ·
    rintro ⟨L2,work,wv,wm⟩ ⟨hB,F,hU,hM⟩;have ay:=F
    have al:=nI_len work
    obtain ⟨bw,ow,cw,pre,sp,rfl,rfl,bg,bu,bh,av⟩:=F
    refine fJ (e:=[(8,_),(0,_),(2,_)]) aF ?_;refine aV fun an=>aG fun kh12=>aB 1 rfl<|dY bU rfl<|aB 1 rfl<|aD kh12<|aX rfl (fun c44=>?_) (fun c44=>?_)
    ·
     obtain ⟨v,rest,rfl⟩:∃ v rest,work=v::rest:=by
       cases work with
       |nil=>have h0:(a8 (nI [])).length=0:=rfl;omega
       |cons v rest=>exact ⟨v,rest,rfl⟩
     have aa:=hB.wk v (List.mem_cons_self ..)
     have ak:=av (by simp at al;omega)
     refine bZ an<|aS<|aG fun kh13=>aB 1 rfl<|f_Q (aM bU rfl rfl (ow))<|f_Q (aH Tryz.isAgg3 rfl (rdA (v:= .int .i64 (v:Int)) (by rw [← ak];simp [nI,a8]))) ?_
     refine aB 1 rfl<|aD kh13<|aG fun kh14=>aB 1 rfl<|f_Q (f7 bU rfl rfl rfl rfl (fun h=>by cases h) 1 _ _ (.inr ⟨_,_,rfl,aA⟩) (.inl ⟨rfl,rfl⟩) (.inl ⟨rfl,rfl⟩) ⟨aA,aA,aA⟩ _ rfl) ?_
     refine aB 1 rfl<|aD kh14<|aV fun kh15=>?_
     obtain ⟨rv,rm,rG,ba,ah,aj,_⟩:=hR.split (i:=v) (by rw [kR];exact aa.1)
     rw [lJ] at ah;have a1:=kRow_len e (2*e.length) v
     obtain ⟨Ar,cr,rfl,be⟩:=ah.val
     refine eP (Sub.splitF aj)<|aI<|aB 1 rfl<|f_Q (dD rfl)<|cN qR rfl<|c7 Tryz.isAgg32 rfl (rdA rfl)<|aB 1 rfl<|f_Q (aM g5 rfl rfl (v))<|f_Q (aH Tryz.isAgg25 rfl (rdA ba))<|dY bU rfl ?_
     refine aB 1 rfl<|aD kh15<|aS ?_
     refine dF (α:=Nat×List Int×List Nat×Value×Seg) [0,2,9,56,57] (fun ⟨j,J,wk,O,U⟩=>[(58,.int .i64 (j:Int)),(8,O)]) (fun ⟨j,J,wk,O,U⟩=>[[(bx,blk (gR (.slice A e.length cap) n bat bl bn) 290)],[(bat,blk vs 25)],rm,rG,me,[(bl,blk (a8 J) 3)],[(bn,blk (a8 (List.replicate n 0)) 3)],U]) (fun ⟨j,J,wk,O,U⟩=>j≤(jP e (2*e.length) v).length∧LayB n e s f J wk (fun k=>dQ e k≠v∨(k:Int)∈(jP e (2*e.length) v).take j)∧0≤dL J v∧OwnQ 3 O (a8 (nI wk)) U∧(unl J+wk.length≤n∧∀ u,u<n→dL J u+unl J≤n)∧2*unl J+wk.length≤2*unl L2+rest.length) (fun ⟨j,J,wk,O,U⟩=>(jP e (2*e.length) v).length - j) (0,L2,rest,.slice (if cw=1 then some ⟨bw,ow,none⟩ else (some ⟨bw,ow,none⟩:Option Addr).map (·.add (1*1))) ((a8 (nI (v::rest))).length - 1) (cw - 1),[(bw,blk (pre++(a8 (nI (v::rest))++sp)) 3)]) ?_ ?_ ?_ ?_
     · exact aF
     · exact aC
     · exact ⟨Nat.zero_le _,hB.pop.weaken fun k _ h=>by
       rcases h with h|h
       · exact h
       · simp at h,aa.2,OwnQ.tail (x:= .int .i64 (v:Int)) (cs:=a8 (nI rest)) ay,⟨by simp only [List.length_cons] at hU;omega,hM⟩,Nat.le_refl _⟩
     ·
      rintro ⟨j,J,wk,O,U⟩ ⟨bf,Z,ag,ad,⟨ai,X⟩,ae⟩;have bp:=Z.len
      have bc:=nI_len wk
      refine fJ (e:=[(58,_),(8,_),(0,_),(2,_),(9,_),(56,_),(57,_)]) aF ?_;refine aG fun kh16=>aB 1 rfl<|aD kh16<|aV fun kh17=>aX rfl (fun aq=>?_) (fun aq=>?_)
      ·
       refine bZ kh17<|aV fun kh18=>aS<|aG fun kh19=>?_
       have hj:j<(jP e (2*e.length) v).length:=aA
       obtain ⟨br,sr,rfl,rfl⟩:=ah.at_ aA
       obtain ⟨k,ab,ac,ao⟩:=row_at hj
       have bt:=kto_lt hn.net ac
       refine f_Q (aM bU rfl rfl (j))<|f_Q (aH Tryz.isAgg3 rfl (rdA (v:= .int .i64 (k:Int)) (d7 (by rw [d9 hj,ab])))) ?_;refine aB 1 rfl<|aD kh19<|aG fun kh20=>aB 2 rfl ?_
       refine f_S (aW Tryz.call198 rfl (fun w_ Y=>to_spec n e f bx bat bl bn k cap A w_ (fK (b:=bx) Y (fun j v hj=>hj)) (fD (hE.seen Y)) hn hf.len ac) ?_);rintro _ _ ⟨rfl,rfl⟩;dsimp only [aK,aJ];refine aB 1 rfl<|aD kh20<|aG fun kh21=>aB 1 rfl<|f_Q (dD rfl)<|cN lV rfl<|c7 Tryz.isAgg25 rfl (rdA rfl)<|aB 1 rfl<|f_Q (aM bU rfl rfl (kto e k))<|f_Q (aH Tryz.isAgg3 rfl (rdA (k3 aA))) ?_
       refine aB 2 rfl<|eA 73 rfl (fun g73=>?_) (fun g73=>?_)
       ·
        refine aB 2 rfl ?_;refine k9 rfl rfl rfl rfl rfl (aW Tryz.call193 rfl (fun w_ Y=>left_spec n e f bx bat bl bn k cap A w_ (fK (b:=bx) Y (fun j v hj=>hj)) (fD (hE.seen Y)) hn hf.len ac) ?_);rintro _ _ ⟨rfl,rfl⟩;dsimp only [aK,aJ];refine aB 2 rfl<|aD kh21<|aX rfl (fun c78=>?_) (fun c78=>?_)
        ·
         have bv:=unl_set (L:=J) (i:=kto e k) (x:=dL J v+1) aA g73 aA
         refine aV fun am=>?_;have bq:=X v aa.1
         refine gG 14 rfl aU<|dN 1 rfl<|dG (dD rfl)<|dG (aT lV rfl)<|gH Tryz.isAgg25 rfl (rdA rfl)<|dN 2 rfl<|dG (dD rfl)<|dG (aT lV rfl)<|gH Tryz.isAgg25 rfl (rdA rfl)<|dN 1 rfl ?_
         refine dG (aM bU rfl rfl (v))<|dG (aH Tryz.isAgg3 rfl (rdA (k3 aA)))<|dG (bF rfl rfl)<|dG (aM bU rfl rfl (kto e k))<|eK (i3 ?_)
         refine f_Z (bQ Tryz.sizeOf3 rfl rfl rfl rfl (by rw [a7];omega) (a8 (J.set (kto e k) (dL J v+1))) (pU ..) ?_);refine aD am<|aI<|aB 2 rfl<|f_S (bX eO aA rfl rfl rfl fun b95=>?_)
         refine f_S (o_appendO eO rfl rfl ad (ys:=[.int .i64 ((kto e k:Nat):Int)]) ⟨(rdA rfl),trivial⟩ rfl aA rfl aA aA fun az ax au=>?_);refine aB 1 rfl<|aY<|dI<|bP kh18<|aI<|f_Q (bF rfl rfl)<|aB 1 rfl<|aY ?_
         refine cV (a6 (j+1,J.set (kto e k) (dL J v+1),wk++[kto e k],az,ax) (by first|omega|(dsimp only;omega)|(simp;omega)) ⟨aA,by
           have h:=Z.see hn.net ac (by rw [ao];exact ag) g73 c78
           rw [ao] at h
           exact h.weaken (fun q hq F=>by
           rcases F with F|F
           · exact .inl (.inl F)
           · rcases take_nextI hj F with F|F
             · exact .inl (.inr F)
             · rw [ab] at F;exact .inr aA),by rw [jW aA];split<;>omega,by rw [nI_snoc];exact au,⟨by rw [List.length_append];simp;omega,fun u hu=>by rw [jW aA];have:=X u hu;have:=X v aa.1;split<;>omega⟩,by rw [List.length_append];simp;omega⟩ ?_ ?_ ?_)
         · exact aF
         · exact aF
         · exact aC
        ·
         refine dZ<|dI<|bP kh18<|aI<|f_Q (bF rfl rfl)<|aB 1 rfl<|aY ?_
         refine cV (a6 (j+1,J,wk,O,U) (by first|omega|(dsimp only;omega)|(simp;omega)) ⟨aA,(Z.skip (k:=k) aA).weaken (fun q hq F=>by
           rcases F with F|F
           · exact .inl (.inl F)
           · rcases take_nextI hj F with F|F
             · exact .inl (.inr F)
             · rw [ab] at F;exact .inr aA),ag,ad,⟨ai,X⟩,ae⟩ ?_ ?_ ?_)
         · exact aF
         · exact aF
         · exact aC
       ·
        refine aB 5 rfl<|aD kh21<|h7 rfl<|dZ<|dI<|bP kh18<|aI<|f_Q (bF rfl rfl)<|aB 1 rfl<|aY ?_
        refine cV (a6 (j+1,J,wk,O,U) (by first|omega|(dsimp only;omega)|(simp;omega)) ⟨aA,(Z.skip (k:=k) aA).weaken (fun q hq F=>by
          rcases F with F|F
          · exact .inl (.inl F)
          · rcases take_nextI hj F with F|F
            · exact .inl (.inr F)
            · rw [ab] at F;exact .inr aA),ag,ad,⟨ai,X⟩,ae⟩ ?_ ?_ ?_)
        · exact aF
        · exact aF
        · exact aC
      ·
       refine cS<|cU<|cU<|eH<|dI<|gN (Sub.joinF (m:=rm) (G' :=rG) aj.symm) ?_
       refine cV (a6 (J,wk,O,U) (by simp only [List.length_cons];omega) ⟨Z.weaken fun k hk _=>by
         by_cases h:dQ e k=v
         · right;rw [List.take_of_length_le aA,← h];exact kRow_has hk
         · exact .inl h,ad,ai,X⟩ ?_ ?_ ?_)
       · exact aF
       · exact aF
       · exact aC
    ·
     obtain rfl:work=[]:=by
       cases work with
       |nil=>rfl
       |cons v rest=>simp at al;omega
     refine cS<|cU<|cU<|eH<|bP kh10<|aG fun kh23=>aB 1 rfl<|f_Q (dD rfl)<|cN lV rfl<|c7 Tryz.isAgg25 rfl (rdA rfl) ?_
     refine aB 1 rfl<|f_Q (aM bU rfl rfl (t))<|f_Q (aH Tryz.isAgg3 rfl (rdA (k3 (by have:=hB.len;omega)))) ?_
     refine aB 2 rfl<|aD kh23<|aZ ?_
     exact bO [(mA bx bat bl bn n (.slice A e.length cap) vs ms.flatten me L2 (List.replicate n 0)).flatten] Tryz.results191 rfl (Sub.flatF (by unfold mA;repeat (first|exact aP|refine aL ?_|refine bV rfl ?_))) ⟨L2,_,rfl,DRep_mk hR hE,hB.done,rfl⟩
theorem nodup_le:∀ (m:Nat) (l:List Nat),l.Nodup→(∀ x,x∈l→x<m)→l.length≤m
 |0,l,_,h=>by
  cases l with
  |nil=>exact Nat.le_refl _
  |cons x l=>exact absurd (h x (List.mem_cons_self ..)) aA
 |m+1,l,hn,h=>by
  by_cases hm:m∈l
  ·have h1:=nodup_le m (l.erase m) (hn.erase m) fun x hx=>by
    have:=(hn.mem_erase_iff).1 hx
    have:=h x this.2
    omega
   have:=List.length_erase_of_mem hm
   omega
  ·have:=nodup_le m l hn fun x hx=>by
    have:=h x hx
    have:x≠m:=fun e=>hm (e▸hx)
    omega
   omega
theorem Wy.len {n:Nat} {e:List Arc} {s v:Nat} {f L nx:List Int} {W:List Nat} (h:Wy n e s f L nx W v):W.length≤e.length:=by
 have:=nodup_le e.length (W.map (· / 2)) (h.way.nodup h.up) fun x hx=>by
  obtain ⟨k,hk,rfl⟩:=List.mem_map.1 hx
  have:=h.way.lt k hk
  omega
 simpa using this
theorem Way.level {e:List Arc} {L:List Int}:∀ {W:List Nat} {u v:Nat},Way e u v W→Up e L W→dL L v=dL L u+W.length
 |[],u,v,h,_=>by have:u=v:=h;subst this;simp
 |k::r,u,v,⟨h1,h2,h3⟩,hU=>by
  have a:=Way.level h3 fun i hi=>hU i (List.mem_cons_of_mem _ hi)
  have b:=hU k (List.mem_cons_self ..)
  rw [h2] at b;rw [a,b,List.length_cons];omega
theorem xor1 (k:Nat):k ^^^ 1=if k % 2=0 then k+1 else k - 1:=by
 apply Nat.eq_of_testBit_eq;intro i;rw [Nat.testBit_xor]
 cases i with
 |zero=>
  split
  ·rename_i h
   have a:(k+1) % 2=1:=aA
   simp only [Nat.testBit_zero,h,a];rfl
  ·rename_i h
   have a:(k - 1) % 2=0:=aA
   have b:k % 2=1:=aA
   simp only [Nat.testBit_zero,b,a];rfl
 |succ i=>
  have h1:(1:Nat).testBit (i+1)=false:=by simp [Nat.testBit_succ]
  rw [h1,Bool.xor_false,Nat.testBit_succ]
  split
  ·rw [Nat.testBit_succ];congr 1;omega
  ·rw [Nat.testBit_succ];congr 1;omega
theorem xor1_lt {e:List Arc} {k:Nat} (h:k<2*e.length):k ^^^ 1<2*e.length:=by rw [xor1];split<;>omega
theorem kto_xor (e:List Arc) (k:Nat):kto e (k ^^^ 1)=dQ e k:=by
 rw [xor1]
 unfold kto dQ
 by_cases h:k % 2=0
 ·rw [if_pos h,if_neg aA,if_pos h,show (k+1) / 2=k / 2 by omega]
 ·rw [if_neg h,if_pos aA,if_neg h,show (k - 1) / 2=k / 2 by omega]
theorem nI_pop (W:List Nat) (k:Nat):(a8 (nI (W++[k]))).take (W.length*1)=a8 (nI W):=by
 rw [nI_snoc,List.take_left' (by rw [nI_len];omega)]
theorem last_of {W:List Nat} (h:W≠[]):∃ W' k,W=W' ++[k]:=⟨W.dropLast,W.getLast h,(List.dropLast_concat_getLast h).symm⟩
def WayΦ (n:Nat) (e:List Arc) (s t:Nat) (f L nx:List Int) (bx:Nat) (u:Value) (own:List Seg):Prop:=
 ∃ W nx' m' mw,own=[m',mw]∧DRep n e f L nx' bx m'∧Nx n e nx'∧Own 3 1 u W.length (a8 (nI W)) mw∧W.length≤e.length∧(W≠[]→Way e s t W∧∀ k,k∈W→Good e f L k)∧(W=[]→Past n e t f L nx→Dead e t nx' s∧Past n e t f L nx')
theorem way_spec (n:Nat) (e:List Arc) (f L nx:List Int) (bx:Nat) (m:Seg) (s t:Nat) (w:World) (hn:NOk n e) (hf:Fits e f) (bu:L.length=n) (av:dL L s=0) (ag:∀ v,v<n→-1≤dL L v) (hx:Nx n e nx) (hS:DRep n e f L nx bx m) (hs:s<n) (ht:t<n) (ak:s≠t) (hw:Owns w [m]):
    Meets Tryz.prog 192 [.pointer (some ⟨bx,0,none⟩),.int .i64 (s:Int),.int .i64 (t:Int)] w [m] (WayΦ n e s t f L nx bx):=by
 have bk:=hn.n1
 have bt:=hn.len
 refine bG Tryz.func192 rfl Tryz.ntmps192 rfl hw ?_;obtain ⟨bat,bl,bn,ve,vs,ms,me,ar,hR,hE⟩:=hS
 obtain ⟨A,cap,rfl,_⟩:=hE.val
 refine eP (Sub.permF ar) ?_
 unfold mA
 refine aG fun kh1=>aB 1 rfl<|aD kh1<|f_scope<|aG fun kh2=>aB 1 rfl<|aD kh2<|aG fun kh3=>aB 2 rfl<|aD kh3 ?_
 refine aV fun kh4=>f_label<|bP kh4<|aV fun kh5=>aS ?_
 refine dF (α:=List Nat×Nat×List Int×Value×Seg) [0,2] (fun ⟨W,v,nx2,wv,wm⟩=>[(7,wv),(8,.int .i64 (v:Int))]) (fun ⟨W,v,nx2,wv,wm⟩=>[[(bx,blk (gR (.slice A e.length cap) n bat bl bn) 290)],[(bat,blk vs 25)],ms.flatten,me,[(bl,blk (a8 L) 3)],[(bn,blk (a8 nx2) 3)],wm]) (fun ⟨W,v,nx2,wv,wm⟩=>Wy n e s f L nx2 W v∧v<n∧Own 3 1 wv W.length (a8 (nI W)) wm∧(Past n e t f L nx→Past n e t f L nx2)) (fun ⟨W,v,nx2,wv,wm⟩=>oZ n e L nx2 v) ([],s,nx,.slice none 0 0,[]) ?_ ?_ ?_ ?_
 ·exact aF
 ·exact aC
 ·exact ⟨⟨rfl,fun k h=>by simp at h,fun k h=>by simp at h,hx⟩,hs,Own.nil _ _,fun h=>h⟩
 ·rintro ⟨W,v,nx2,wv,wm⟩ ⟨hy,F,hW,hP⟩;obtain ⟨Aw,cw,rfl,bh⟩:=hW.val
  refine aV fun a1=>aG fun kh7=>aB 3 rfl<|aD kh7<|aX rfl (fun c15=>?_) (fun c15=>?_)
  ·refine bZ a1<|aS<|aV fun kh8=>aS ?_
   obtain ⟨rv,rm,rG,ao,ae,ac,_⟩:=hR.split (i:=v) (by rw [kR];exact F)
   rw [lJ] at ae;have bc:=kRow_len e (2*e.length) v
   obtain ⟨Ar,cr,rfl,bg⟩:=ae.val
   refine eP (Sub.splitF ac) ?_;refine dF (α:=List Int) [0,2] (fun nx3=>[(7,.slice Aw W.length cw),(8,.int .i64 (v:Int))]) (fun nx3=>[[(bx,blk (gR (.slice A e.length cap) n bat bl bn) 290)],[(bat,blk vs 25)],rm,rG,me,[(bl,blk (a8 L) 3)],[(bn,blk (a8 nx3) 3)],wm]) (fun nx3=>Wy n e s f L nx3 W v∧(Past n e t f L nx→Past n e t f L nx3)∧oZ n e L nx3 v≤oZ n e L nx2 v) (fun nx3=>((jP e (2*e.length) v).length - dL nx3 v).toNat) (nx2) ?_ ?_ ?_ ?_
   ·exact aF
   ·exact aC
   ·exact ⟨hy,hP,Nat.le_refl _⟩
   ·rintro nx3 ⟨hy3,aa,an⟩;have bq:=hy3.nx.len
    have bp:0≤dL nx3 v∧dL nx3 v≤(((jP e (2*e.length) v).length:Nat):Int):=hy3.nx.rng v F
    refine fJ (e:=[(7,_),(8,_),(0,_),(2,_)]) aF ?_;refine aV fun az=>aV fun al=>h9 rfl aU<|dN 1 rfl<|dG (dD rfl)<|dG (aT fa290_3 rfl)<|gH Tryz.isAgg25 rfl (rdA rfl)<|dN 1 rfl<|dG (aM bU rfl rfl (v))<|dG (aH Tryz.isAgg3 rfl (rdA (k3 aA))) ?_
    refine dN 1 rfl<|dG (dD rfl)<|dG (aT qR rfl)<|gH Tryz.isAgg32 rfl (rdA rfl)<|dN 1 rfl<|dG (aM g5 rfl rfl (v))<|dG (aH Tryz.isAgg25 rfl (rdA ao))<|dG (iZ bU rfl)<|dN 1 rfl<|eK ?_
    refine bP al<|aX rfl (fun c31=>?_) (fun c31=>?_)
    ·refine bZ az<|aV fun kh11=>aS<|aV fun kh12=>gG 16 rfl aU ?_
     have hj:(dL nx3 v).toNat<(jP e (2*e.length) v).length:=aA
     have hlt:dL nx3 v<((row e v).length:Int):=by show dL nx3 v<((jP e (2*e.length) v).length:Int);omega
     obtain ⟨br,sr,rfl,rfl⟩:=ae.at_ aA
     obtain ⟨k,ai,U,X⟩:=row_at hj
     have Z:(row e v)[(dL nx3 v).toNat]? =some (k:Int):=by rw [List.getElem?_eq_getElem hj,ai]
     have ba:=kto_lt hn.net U
     have aq:=hy3.way.level hy3.up
     rw [av] at aq;have au:=hy3.len
     refine dN 1 rfl<|dG (dD rfl)<|dG (aT qR rfl)<|gH Tryz.isAgg32 rfl (rdA rfl)<|dN 1 rfl<|dG (aM g5 rfl rfl (v))<|dG (aH Tryz.isAgg25 rfl (rdA ao))<|dN 1 rfl<|dG (dD rfl)<|dG (aT fa290_3 rfl) ?_
     refine gH Tryz.isAgg25 rfl (rdA rfl)<|dN 1 rfl<|dG (aM bU rfl rfl (v))<|dG (aH Tryz.isAgg3 rfl (rdA (k3 aA)))<|dG (aM bU rfl rfl ((dL nx3 v).toNat))<|dG (aH Tryz.isAgg3 rfl (rdA (v:= .int .i64 (k:Int)) (d7 (by rw [d9 hj,ai])))) ?_
     refine eK (i3 ?_);refine aB 1 rfl<|aD kh12<|aG fun kh13=>aB 2 rfl ?_
     refine f_S (aW Tryz.call198 rfl (fun w_ J=>to_spec n e f bx bat bl bn k cap A w_ (fK (b:=bx) J (fun j v hj=>hj)) (fD (hE.seen J)) hn hf.len U) ?_);rintro _ _ ⟨rfl,rfl⟩;dsimp only [aK,aJ];refine aB 1 rfl<|aD kh13<|aV fun kh14=>cQ [[(bx,blk (gR (.slice A e.length cap) n bat bl bn) 290)],[(bl,blk (a8 L) 3)]] rfl<|f_T 0 rfl (aR rfl)<|f_T 1 rfl (aR rfl) ?_
     refine f_O 2 rfl (aW Tryz.call193 rfl (fun w_ J=>left_spec n e f bx bat bl bn k cap A w_ (fK (b:=bx) J (fun j v hj=>hj)) (fD (hE.seen J)) hn hf.len U) ?_);rintro _ _ ⟨rfl,rfl⟩;dsimp only [aK,aJ];refine ⟨aC,?_⟩;refine f_T 3 rfl (o_gtr rfl rfl)<|f_T 4 rfl (aR rfl)<|f_splitH 64 rfl (fun g64=>?_) (fun g64=>?_)
     ·refine iA 5 rfl rfl rfl (aR rfl)<|iA 6 rfl rfl rfl (dD rfl)<|iA 7 rfl rfl rfl (aT lV rfl)<|iA 8 rfl rfl rfl (aH Tryz.isAgg25 rfl (rdA rfl))<|iA 9 rfl rfl rfl (aR rfl)<|iA 10 rfl rfl rfl (aM bU rfl rfl (kto e k))<|iA 11 rfl rfl rfl (aH Tryz.isAgg3 rfl (rdA (k3 aA)))<|iA 12 rfl rfl rfl (aR rfl)<|iA 13 rfl rfl rfl (dD rfl)<|iA 14 rfl rfl rfl (aT lV rfl) ?_
      refine iA 15 rfl rfl rfl (aH Tryz.isAgg25 rfl (rdA rfl))<|iA 16 rfl rfl rfl (aR rfl)<|iA 17 rfl rfl rfl (aM bU rfl rfl (v))<|iA 18 rfl rfl rfl (aH Tryz.isAgg3 rfl (rdA (k3 aA)))<|iA 19 rfl rfl rfl (bF rfl rfl)<|iA 20 rfl rfl rfl (o_eql rfl rfl)<|f_T 21 rfl (lQ rfl rfl)<|cO aU<|bP kh14<|aX rfl (fun c81=>?_) (fun c81=>?_)
      ·refine aG fun kh15=>aB 2 rfl<|f_S (bX eO aA rfl rfl rfl fun b84=>?_)
       refine f_S (dJ eO rfl rfl hW (ys:=[.int .i64 (k:Int)]) ⟨(rdA rfl),trivial⟩ rfl rfl aA aA fun aw a2 ay=>?_);refine aB 1 rfl<|aD kh15<|aG fun kh16=>aB 2 rfl<|aD kh16<|cS<|f_bo rfl<|cU<|cU<|f_bo rfl ?_
       refine cU<|eH<|gN (Sub.joinF ac.symm) ?_
       refine cV (a6 (W++[k],kto e k,nx3,aw,a2) (by show oZ n e L nx3 (kto e k)<oZ n e L nx2 v;have:=wayMu_on (L:=L) ⟨g64,by rw [X];exact c81⟩ X hy3.nx;omega) ⟨hy3.on U X Z ⟨g64,by rw [X];exact c81⟩,ba,by rw [nI_snoc,List.length_append];exact ay,aa⟩ ?_ ?_ ?_)
       ·exact aF
       ·exact aF
       ·exact aC
      ·refine dZ<|dI<|bP kh11<|aI<|aB 1 rfl<|f_Q (dD rfl)<|cN fa290_3 rfl<|c7 Tryz.isAgg25 rfl (rdA rfl)<|aB 1 rfl<|f_Q (aM bU rfl rfl (v)) ?_
       refine f_Q (aH Tryz.isAgg3 rfl (rdA (k3 aA)))<|f_Q (bF rfl rfl)<|f_Q (aM bU rfl rfl (v))<|f_Z (bQ Tryz.sizeOf3 rfl rfl rfl rfl (by rw [a7];omega) (a8 (nx3.set v (dL nx3 v+1))) (pU ..) ?_)
       refine aY ?_
       refine cV (a6 (nx3.set v (dL nx3 v+1)) (by rw [jW aA,if_pos rfl];omega) ⟨hy3.pass F hlt,fun h=>(aa h).step hy3.nx F hlt (fun k' O ad=>by
         rw [Z] at O;obtain rfl:k=k' :=by have:=Option.some.inj O;omega
         obtain ⟨q1,q2⟩:=ad
         rw [X] at q2;omega),Nat.le_trans (Nat.le_of_lt (wayMu_pass (L:=L) hy3.nx F hlt (ag v F) v)) an⟩ ?_ ?_ ?_)
       ·exact aF
       ·exact aF
       ·exact aC
     ·refine dE 5 rfl aU rfl rfl rfl rfl rfl rfl aC<|dE 6 rfl aU rfl rfl rfl rfl rfl rfl aC<|dE 7 rfl aU rfl rfl rfl rfl rfl rfl aC<|dE 8 rfl aU rfl rfl rfl rfl rfl rfl aC<|dE 9 rfl aU rfl rfl rfl rfl rfl rfl aC<|dE 10 rfl aU rfl rfl rfl rfl rfl rfl aC<|dE 11 rfl aU rfl rfl rfl rfl rfl rfl aC<|dE 12 rfl aU rfl rfl rfl rfl rfl rfl aC<|dE 13 rfl aU rfl rfl rfl rfl rfl rfl aC<|dE 14 rfl aU rfl rfl rfl rfl rfl rfl aC ?_
      refine dE 15 rfl aU rfl rfl rfl rfl rfl rfl aC<|dE 16 rfl aU rfl rfl rfl rfl rfl rfl aC<|dE 17 rfl aU rfl rfl rfl rfl rfl rfl aC<|dE 18 rfl aU rfl rfl rfl rfl rfl rfl aC<|dE 19 rfl aU rfl rfl rfl rfl rfl rfl aC<|dE 20 rfl aU rfl rfl rfl rfl rfl rfl aC<|f_T 21 rfl (oG rfl rfl)<|cO aU<|bP kh14<|h7 rfl ?_
      refine dZ<|dI<|bP kh11<|aI<|aB 1 rfl<|f_Q (dD rfl)<|cN fa290_3 rfl<|c7 Tryz.isAgg25 rfl (rdA rfl)<|aB 1 rfl<|f_Q (aM bU rfl rfl (v)) ?_
      refine f_Q (aH Tryz.isAgg3 rfl (rdA (k3 aA)))<|f_Q (bF rfl rfl)<|f_Q (aM bU rfl rfl (v))<|f_Z (bQ Tryz.sizeOf3 rfl rfl rfl rfl (by rw [a7];omega) (a8 (nx3.set v (dL nx3 v+1))) (pU ..) ?_)
      refine aY ?_
      refine cV (a6 (nx3.set v (dL nx3 v+1)) (by rw [jW aA,if_pos rfl];omega) ⟨hy3.pass F hlt,fun h=>(aa h).step hy3.nx F hlt (fun k' O ad=>by
        rw [Z] at O;obtain rfl:k=k' :=by have:=Option.some.inj O;omega
        obtain ⟨q1,q2⟩:=ad
        rw [X] at q2;omega),Nat.le_trans (Nat.le_of_lt (wayMu_pass (L:=L) hy3.nx F hlt (ag v F) v)) an⟩ ?_ ?_ ?_)
      ·exact aF
      ·exact aF
      ·exact aC
    ·refine cS<|cU<|cU<|eH<|bP kh8<|aV fun kh17=>aG fun am=>aB 1 rfl<|dY bU rfl<|aB 1 rfl ?_
     refine aD am<|aX rfl (fun c89=>?_) (fun c89=>?_)
     ·obtain rfl:W=[]:=by
        cases W with
        |nil=>rfl
        |cons a b=>simp at c89;omega
      have be:s=v:=hy3.way
      subst be;refine aG fun aj=>aB 1 rfl<|aD aj<|aZ<|dA<|fA<|dA<|fA<|dA<|f_nr ?_
      exact bO [(mA bx bat bl bn n (.slice A e.length cap) vs ms.flatten me L nx3).flatten,[]] Tryz.results192 rfl (Sub.transF (Sub.joinF ac.symm) (Sub.flat2 (Sub.transF (b:=mA bx bat bl bn n (.slice A e.length cap) vs ms.flatten me L nx3) (by unfold mA;repeat (first|exact aP|refine aL ?_|refine bV rfl ?_)) Sub.addNil))) ⟨[],nx3,_,[],rfl,DRep_mk hR hE,hy3.nx,Own.nil _ _,Nat.zero_le _,fun h=>absurd rfl h,fun _ h=>⟨⟨by show dL nx3 s=(((jP e (2*e.length) s).length:Nat):Int);omega,ak⟩,aa h⟩⟩
     ·obtain ⟨W',k,rfl⟩:=last_of (W:=W) (fun e' =>by subst e';simp at c89)
      have au:=hy3.len
      have bv:(W' ++[k]).length=W'.length+1:=aO
      obtain ⟨bw,sw,rfl,rfl⟩:=hW.at_ aA
      obtain ⟨U,ap,ax⟩:=hy3.back
      have Y:=nR hn.net U
      have ab:=hy3.lt
      have bj:dL nx3 (dQ e k)<(((jP e (2*e.length) (dQ e k)).length:Nat):Int):=hy3.lt
      have bi:=hy3.nx.rng _ Y
      have bf:=kRow_len e (2*e.length) (dQ e k)
      refine bZ kh17<|aG fun kh20=>aB 2 rfl<|dY bU rfl<|f_Q (jK rfl rfl)<|f_Q (aM bU rfl rfl (W'.length))<|f_Q (aH Tryz.isAgg3 rfl (rdA (v:= .int .i64 (k:Int)) (d7 (by rw [nI_snoc,List.getElem?_append_right (by rw [nI_len];exact Nat.le_refl _),nI_len,Nat.sub_self];rfl)))) ?_
      refine aB 1 rfl<|aD kh20<|aG fun kh21=>aB 2 rfl<|dY bU rfl<|f_Q (jK rfl rfl)<|f_Q (f7 bU rfl rfl rfl rfl (fun h=>by cases h) 0 W'.length _ (.inl ⟨rfl,rfl⟩) (.inr ⟨_,_,rfl,aA⟩) (.inl ⟨rfl,rfl⟩) ⟨aA,aA,aA⟩ (.slice (some ⟨bw,0,none⟩) W'.length cw) (by rw [if_neg aA];simp [dH])) ?_
      refine aB 1 rfl<|aD kh21<|aG fun kh22=>aB 2 rfl<|f_Q (o_xor rfl rfl ((k ^^^ 1:Nat):Int) (xor_one aA)) ?_
      refine f_S (aW Tryz.call198 rfl (fun w_ J=>to_spec n e f bx bat bl bn (k ^^^ 1) cap A w_ (fK (b:=bx) J (fun j v hj=>hj)) (fD (hE.seen J)) hn hf.len (xor1_lt U)) ?_);rintro _ _ ⟨rfl,rfl⟩;rw [kto_xor];dsimp only [aK,aJ];refine aB 1 rfl<|aD kh22<|aI<|aB 1 rfl<|f_Q (dD rfl)<|cN fa290_3 rfl<|c7 Tryz.isAgg25 rfl (rdA rfl)<|aB 1 rfl<|f_Q (aM bU rfl rfl (dQ e k))<|f_Q (aH Tryz.isAgg3 rfl (rdA (k3 aA))) ?_
      refine f_Q (bF rfl rfl)<|f_Q (aM bU rfl rfl (dQ e k))<|f_Z (bQ Tryz.sizeOf3 rfl rfl rfl rfl (by rw [a7];omega) (a8 (nx3.set (dQ e k) (dL nx3 (dQ e k)+1))) (pU ..) ?_)
      refine aY<|dI<|gN (Sub.joinF ac.symm) ?_
      refine cV (a6 (W',dQ e k,nx3.set (dQ e k) (dL nx3 (dQ e k)+1),.slice (some ⟨bw,0,none⟩) W'.length cw,[(bw,blk (a8 (nI (W' ++[k]))++sw) 3)]) (by show oZ n e L (nx3.set (dQ e k) (dL nx3 (dQ e k)+1)) (dQ e k)<oZ n e L nx2 v;have:=wayMu_pass (L:=L) hy3.nx Y ab (ag _ Y) v;omega) ⟨ax.pass Y ab,Y,by have:=hW.head (n:=W'.length) aO;rw [nI_pop] at this;exact this,fun h=>(aa h).step hy3.nx Y ab (fun k' O ad=>by
        have ah:=hy3.cur k aO
        rw [O] at ah;obtain rfl:k' =k:=by have:=Option.some.inj ah;omega
        rw [ap];exact ⟨by show dL nx3 v=(((jP e (2*e.length) v).length:Nat):Int);omega,fun e' =>c15 (by rw [e'])⟩)⟩ ?_ ?_ ?_)
      ·exact aF
      ·exact aF
      ·exact aC
  ·obtain rfl:v=t:=aA
   refine cS<|cU<|cU<|eH<|bP kh5<|aG fun kh23=>aB 2 rfl<|aD kh23<|aZ<|f_nr ?_
   exact bO [(mA bx bat bl bn n (.slice A e.length cap) vs ms.flatten me L nx2).flatten,wm] Tryz.results192 rfl (Sub.flat2 (by unfold mA;repeat (first|exact aP|refine aL ?_|refine bV rfl ?_))) ⟨W,nx2,_,wm,rfl,DRep_mk hR hE,hy.nx,hW,hy.len,fun _=>⟨hy.way,hy.good⟩,fun h=>by subst h;exact absurd (show s=v from hy.way) ak⟩
end Go.Proofs.YthpkelafioikaaaGreat
