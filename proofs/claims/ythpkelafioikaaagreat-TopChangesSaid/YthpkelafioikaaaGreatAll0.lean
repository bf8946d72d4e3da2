import Derived.Test.YthpkelafioikaaaGreatFlyRun
import Derived.Test.YthpkelafioikaaaGreatFlyD
import Derived.Test.YthpkelafioikaaaGreatFlyT
namespace Go.Proofs.YthpkelafioikaaaGreat
open Go Go.RowKit Fly
set_option maxRecDepth 100000
set_option maxHeartbeats 4000000
set_option linter.all false
def gB (N:Int) (x:Arc):Bool:=decide (x.src<0∨N≤x.src∨x.dst<0∨N≤x.dst)
def cG (N:Int) (l:List Arc):Int×Int:=
 if N<1∨1024<N then (0,1) else if 8192<l.length then (0,2) else
 match l.findIdx? (gB N) with
 |some i=>(i,30)
 |none=>(0,0)
theorem gcheck_range {N:Int} {l:List Arc} (h:N<1∨1024<N):cG N l=(0,1):=by simp [cG,h]
theorem gcheck_long {N:Int} {l:List Arc} (h:1≤N∧N≤1024) (hl:8192<l.length):cG N l=(0,2):=by
 have:¬ (N<1∨1024<N):=aA
 simp [cG,this,hl]
theorem gcheck_ok {N:Int} {l:List Arc} (h:1≤N∧N≤1024) (hl:l.length≤8192) (F:∀ j (h:j<l.length),gB N l[j]=false):cG N l=(0,0):=by
 have h1:¬ (N<1∨1024<N):=aA
 have h2:¬ 8192<l.length:=aA
 have h3:l.findIdx? (gB N)=none:=by
  rw [List.findIdx?_eq_none_iff];intro x hx;obtain ⟨j,hj,rfl⟩:=List.mem_iff_getElem.1 hx
  exact F j hj
 simp [cG,h1,h2,h3]
theorem gcheck_bad {N:Int} {l:List Arc} {k:Nat} (h:1≤N∧N≤1024) (hl:l.length≤8192) (hk:k<l.length) (F:∀ j (h:j<l.length),j<k→gB N l[j]=false) (hb:gB N l[k]=true):
  cG N l=((k:Int),30):=by
 have h1:¬ (N<1∨1024<N):=aA
 have h2:¬ 8192<l.length:=aA
 have h3:l.findIdx? (gB N)=some k:=by
  rw [List.findIdx?_eq_some_iff_getElem];exact ⟨hk,hb,fun j hj=>by simp [F j aA hj]⟩
 simp [cG,h1,h2,h3]
theorem nY {x:Int} (h:I64 x):IntKind.u64.wrap x=if x<0 then x+18446744073709551616 else x:=by
 unfold I64 at h;unfold IntKind.wrap IntKind.bits IntKind.signed;simp only;split<;>rename_i hc<;>simp at hc<;>split<;>omega
theorem badU {N x:Int} (J:1≤N∧N≤1024) (h:I64 x):IntKind.u64.wrap N≤IntKind.u64.wrap x↔(x<0∨N≤x):=by
 have F:I64 N:=⟨aA,aA⟩
 rw [nY h,nY F];unfold I64 at h;split<;>split<;>omega
theorem arcBadL {N:Int} {x:Arc} (F:1≤N∧N≤1024) (h:eK x) (hb:IntKind.u64.wrap N≤IntKind.u64.wrap x.src):gB N x=true:=by
 have:=(badU F h.src).1 hb
 unfold gB;simp;omega
theorem arcBadR {N:Int} {x:Arc} (F:1≤N∧N≤1024) (h:eK x) (hb:IntKind.u64.wrap N≤IntKind.u64.wrap x.dst):gB N x=true:=by
 have:=(badU F h.dst).1 hb
 unfold gB;simp;omega
theorem arcGood {N:Int} {x:Arc} (F:1≤N∧N≤1024) (h:eK x) (h1:¬ IntKind.u64.wrap N≤IntKind.u64.wrap x.src) (h2:¬ IntKind.u64.wrap N≤IntKind.u64.wrap x.dst):gB N x=false:=by
 have a:=mt (badU F h.src).2 h1
 have b:=mt (badU F h.dst).2 h2
 unfold gB;simp;omega
theorem good_next {N:Int} {l:List Arc} {k:Nat} {hk:k<l.length} (F:∀ j (h:j<l.length),j<k→gB N l[j]=false) (hb:gB N l[k]=false):
  ∀ j (h:j<l.length),j<k+1→gB N l[j]=false:=fun j h hj=>by
 by_cases e:j=k
 ·subst e;exact hb
 ·exact F j h aA
def jX (N:Int) (l:List Arc) (v:Int):Int:=if (cG N l).2≠0 then (cG N l).2 else if v<0∨N≤v then 5 else 0
theorem glooked_bad {N:Int} {l:List Arc} {v:Int} (h:(cG N l).2≠0):jX N l v=(cG N l).2:=if_pos h
theorem glooked_none {N:Int} {l:List Arc} {v:Int} (h:(cG N l).2=0) (hv:v<0∨N≤v):jX N l v=5:=by simp [jX,h,hv]
theorem glooked_ok {N:Int} {l:List Arc} {v:Int} (h:(cG N l).2=0) (F:0≤v) (h1:v<N):jX N l v=0:=by
 have:¬ (v<0∨N≤v):=aA
 simp [jX,h,this]
def gF {α:Type} (p:α→Bool) (l:List α):List Int:=(l.zipIdx.filter (fun x=>p x.1)).map (fun x=>(x.2:Int))
theorem idxs_succ {α:Type} {p:α→Bool} {l:List α} {k:Nat} (hk:k<l.length):gF p (l.take (k+1))=gF p (l.take k)++(if p l[k] then [(k:Int)] else []):=by
 unfold gF
 rw [List.take_succ_eq_append_getElem hk,List.zipIdx_append,List.filter_append,List.map_append]
 congr 1
 have:(l.take k).length=k:=by simp;omega
 simp only [this,Nat.zero_add,List.zipIdx_cons,List.zipIdx_nil,List.filter_cons,List.filter_nil]
 split<;>simp
theorem nQ {α:Type} {p:α→Bool} {l:List α} {k:Nat} (hk:k<l.length) (h:p l[k]=true):gF p (l.take (k+1))=gF p (l.take k)++[(k:Int)]:=by rw [idxs_succ hk,if_pos h]
theorem lP {α:Type} {p:α→Bool} {l:List α} {k:Nat} (hk:k<l.length) (h:p l[k]=false):gF p (l.take (k+1))=gF p (l.take k):=by rw [idxs_succ hk,h];simp
def fidx {α:Type} (p:α→Bool) (l:List α):Int:=match l.findIdx? p with
 |some i=>i
 |none=> -1
theorem fidx_at {α:Type} {p:α→Bool} {l:List α} {k:Nat} (hk:k<l.length) (h:p l[k]=true) (F:∀ j (h:j<l.length),j<k→p l[j]=false):fidx p l=(k:Int):=by
 have:l.findIdx? p=some k:=by rw [List.findIdx?_eq_some_iff_getElem];exact ⟨hk,h,fun j hj=>by simp [F j aA hj]⟩
 unfold fidx;rw [this]
theorem fidx_none {α:Type} {p:α→Bool} {l:List α} (h:∀ j (h:j<l.length),p l[j]=false):fidx p l= -1:=by
 have:l.findIdx? p=none:=by
  rw [List.findIdx?_eq_none_iff];intro x hx;obtain ⟨j,hj,rfl⟩:=List.mem_iff_getElem.1 hx
  exact h j hj
 unfold fidx;rw [this]
theorem qU {α:Type} {p:α→Bool} {l:List α} {k:Nat} {hk:k<l.length} (h:∀ j (a:j<l.length),j<k→p l[j]=false) (e:p l[k]=false):∀ j (a:j<l.length),j<k+1→p l[j]=false:=fun j a hj=>by
 by_cases F:j=k
 ·subst F;exact e
 ·exact h j a aA
theorem fidx_has {α:Type} {p:α→Bool} {l:List α}:decide (0≤fidx p l)=l.any p:=by
 unfold fidx
 cases h:l.findIdx? p with
 |none=>
  rw [List.findIdx?_eq_none_iff] at h;have:l.any p=false:=by rw [List.any_eq_false];intro x hx;simp [h x hx]
  rw [this];rfl
 |some i=>
  rw [List.findIdx?_eq_some_iff_getElem] at h;obtain ⟨hi,hp,_⟩:=h
  have:l.any p=true:=List.any_eq_true.2 ⟨_,List.getElem_mem hi,hp⟩
  rw [this];simp
def k9 (l:List Nat):List Value:=l.map (fun x:Nat=> .int .i64 (x:Int))
theorem l1 (l:List Nat):(k9 l).length=l.length:=by simp [k9]
theorem nats_get {l:List Nat} {i:Nat} (h:i<l.length):(k9 l)[i]? =some (.int .i64 (l[i]:Int)):=by simp [k9,h]
theorem nats_set (l:List Nat) (i x:Nat):(k9 l).set i (.int .i64 (x:Int))=k9 (l.set i x):=by simp [k9,List.map_set]
theorem nats_replicate (n:Nat):(List.replicate n [Value.int .i64 0]).flatten=k9 (List.replicate n 0):=by
 induction n with
 |zero=>rfl
 |succ n ih=>simp only [List.replicate_succ,List.flatten_cons,ih];rfl
theorem nats_set_get {l:List Nat} {i x:Nat} (h:i<l.length):(k9 (l.set i x))[i]? =some (.int .i64 (x:Int)):=by simp [k9,h]
def oV (up:List Nat):Prop:=∀ i (h:i<up.length),up[i]≤i
def dC (up:List Nat) (v:Nat):Nat:=if h:v<up.length then if up[v]<v then dC up up[v] else v else v
termination_by v
theorem f5 {up:List Nat} {v:Nat} (h:v<up.length) (hs:up[v]=v):dC up v=v:=by
 rw [dC,dif_pos h,if_neg aA]
theorem iS {up:List Nat} (hd:oV up) {v:Nat} (h:v<up.length) (hs:up[v]≠v):dC up v=dC up up[v]:=by
 rw [dC,dif_pos h,if_pos (by have:=hd v h;omega)]
theorem pA {up:List Nat} (v:Nat):dC up v≤v:=by
 induction v using Nat.strongRecOn with
 |_ v ih=>
  rw [dC]
  split
  ·split
   ·rename_i h hlt;exact Nat.le_trans (ih _ hlt) (Nat.le_of_lt hlt)
   ·exact Nat.le_refl _
  ·exact Nat.le_refl _
theorem rootOf_root {up:List Nat} (hd:oV up) {v:Nat} (h:v<up.length):∃ hr:dC up v<up.length,up[dC up v]=dC up v:=by
 induction v using Nat.strongRecOn with
 |_ v ih=>
  by_cases hs:up[v]=v
  ·rw [f5 h hs];exact ⟨h,hs⟩
  ·have F:=hd v h
   rw [iS hd h hs];exact ih _ aA aA
theorem rootOf_idem {up:List Nat} (hd:oV up) {v:Nat} (h:v<up.length):dC up (dC up v)=dC up v:=by
 obtain ⟨hr,he⟩:=rootOf_root hd h
 exact f5 hr he
theorem down_halve {up:List Nat} (hd:oV up) {v:Nat} (h:v<up.length) (h2:up[v]<up.length):oV (up.set v up[up[v]]):=by
 intro i hi;rw [List.length_set] at hi;rw [List.getElem_set]
 split
 ·rename_i e;subst e;exact Nat.le_trans (hd _ h2) (hd _ h)
 ·exact hd i hi
theorem rootOf_halve {up:List Nat} (hd:oV up) {v:Nat} (h:v<up.length) (h2:up[v]<up.length) (u:Nat):dC (up.set v up[up[v]]) u=dC up u:=by
 have U:=down_halve hd h h2
 induction u using Nat.strongRecOn with
 |_ u ih=>
  by_cases J:u<up.length
  ·have F:u<(up.set v up[up[v]]).length:=by simpa using J
   by_cases e:v=u
   ·subst e
    by_cases hs:up[v]=v
    ·rw [f5 h hs,f5 F (by simp [hs])]
    ·have hlt:up[v]<v:=by have:=hd v h;omega
     have X:up[up[v]]≤up[v]:=hd _ h2
     rw [iS hd h hs];have hg:(up.set v up[up[v]])[v]=up[up[v]]:=aN
     rw [iS U F (by rw [hg];omega),hg,ih _ aA]
     by_cases O:up[up[v]]=up[v]
     ·rw [O]
     ·rw [iS hd h2 O]
   ·have hg:(up.set v up[up[v]])[u]=up[u]:=by rw [List.getElem_set,if_neg e]
    by_cases hs:up[u]=u
    ·rw [f5 J hs,f5 F (by rw [hg,hs])]
    ·rw [iS hd J hs,iS U F (by rw [hg];exact hs),hg,ih _ (by have:=hd u J;omega)]
  ·rw [dC,dC,dif_neg (by simpa using J),dif_neg J]
theorem down_join {up:List Nat} (hd:oV up) {x y:Nat}:oV (up.set (max x y) (min x y)):=by
 intro i hi;rw [List.length_set] at hi;rw [List.getElem_set]
 split
 ·rename_i e;subst e;omega
 ·exact hd i hi
theorem rootOf_join {up:List Nat} (hd:oV up) {x y:Nat} (hx:x<up.length) (hy:y<up.length) (U:up[x]=x) (X:up[y]=y) (u:Nat) (J:u<up.length):
  dC (up.set (max x y) (min x y)) u=if dC up u=max x y then min x y else dC up u:=by
 have O:=down_join hd (x:=x) (y:=y)
 have hm:min x y<up.length:=aA
 have hM:max x y<up.length:=aA
 have Y:up[min x y]=min x y:=by
  rcases Nat.le_total x y with h|h
  ·simp only [Nat.min_eq_left h];exact U
  ·simp only [Nat.min_eq_right h];exact X
 have rM:up[max x y]=max x y:=by
  rcases Nat.le_total x y with h|h
  ·simp only [Nat.max_eq_right h];exact X
  ·simp only [Nat.max_eq_left h];exact U
 generalize hp:min x y=p at*
 generalize hq:max x y=q at*
 have Z:p≤q:=aA
 induction u using Nat.strongRecOn with
 |_ u ih=>
  have F:u<(up.set q p).length:=by simpa using J
  by_cases e:q=u
  ·subst e
   rw [f5 J rM,if_pos rfl]
   by_cases hs:p=q
   ·subst hs;rw [f5 F aN]
   ·have hg:(up.set q p)[q]=p:=aN
    rw [iS O F (by rw [hg];exact hs),hg,ih p aA hm,f5 hm Y,if_neg hs]
  ·have hg:(up.set q p)[u]=up[u]:=by rw [List.getElem_set,if_neg e]
   by_cases hs:up[u]=u
   ·rw [f5 J hs,if_neg (fun h=>e h.symm),f5 F (by rw [hg,hs])]
   ·rw [iS hd J hs,iS O F (by rw [hg];exact hs),hg]
    have:=hd u J
    exact ih _ aA aA
def ends2 (l:List Arc):List (Nat×Nat):=l.map (fun x=>(x.src.toNat,x.dst.toNat))
inductive Conn (es:List (Nat×Nat)):Nat→Nat→Prop
 |refl (v:Nat):Conn es v v
 |step {u x y:Nat} (h:Conn es u x) (he:(x,y)∈es∨(y,x)∈es):Conn es u y
theorem Conn.trans {es:List (Nat×Nat)} {u v x:Nat} (h:Conn es u v) (k:Conn es v x):Conn es u x:=by
 induction k with
 |refl=>exact h
 |step _ he ih=>exact .step ih he
theorem Conn.edge {es:List (Nat×Nat)} {u v:Nat} (h:(u,v)∈es∨(v,u)∈es):Conn es u v:= .step (.refl u) h
theorem Conn.symm {es:List (Nat×Nat)} {u v:Nat} (h:Conn es u v):Conn es v u:=by
 induction h with
 |refl=>exact .refl _
 |step _ he ih=>exact (Conn.edge he.symm).trans ih
theorem Conn.mono {es F:List (Nat×Nat)} (hs:∀ e∈es,e∈F) {u v:Nat} (h:Conn es u v):Conn F u v:=by
 induction h with
 |refl=>exact .refl _
 |step _ he ih=>exact .step ih (he.imp (hs _) (hs _))
def Tells (up:List Nat) (es:List (Nat×Nat)):Prop:=∀ u v,u<up.length→v<up.length→(dC up u=dC up v↔Conn es u v)
theorem conn_eq_of_up {es:List (Nat×Nat)} {f:Nat→Nat} (h:∀ e∈es,f e.1=f e.2) {u v:Nat} (hc:Conn es u v):f u=f v:=by
 induction hc with
 |refl=>rfl
 |step _ he ih=>
  rcases he with he|he
  ·exact ih.trans (h _ he)
  ·exact ih.trans (h _ he).symm
theorem tells_start (n:Nat):Tells (List.range n) []:=by
 intro u v F hv;have hr:∀ u,u<n→dC (List.range n) u=u:=fun u F=>f5 (by simpa using F) aN
 rw [List.length_range] at F hv;rw [hr u F,hr v hv];constructor
 ·rintro rfl;exact .refl _
 ·intro h
  cases h with
  |refl=>rfl
  |step _ he=>simp at he
theorem tells_join {up:List Nat} {es:List (Nat×Nat)} {a b:Nat} (hd:oV up) (J:Tells up es) (aa:∀ e∈es,e.1<up.length∧e.2<up.length) (ha:a<up.length) (hb:b<up.length):
  Tells (up.set (max (dC up a) (dC up b)) (min (dC up a) (dC up b))) (es++[(a,b)]):=by
 obtain ⟨X,ea⟩:=rootOf_root hd ha
 obtain ⟨U,eb⟩:=rootOf_root hd hb
 intro u v O hv;rw [List.length_set] at O hv;rw [rootOf_join hd X U ea eb u O,rootOf_join hd X U ea eb v hv];have F:∀ {u v:Nat},Conn es u v→Conn (es++[(a,b)]) u v:=fun h=>h.mono (fun e he=>by simp [he])
 have Z:Conn (es++[(a,b)]) a b:= .edge (.inl aN)
 constructor
 ·intro h
  have ab:dC up u=dC up a→Conn (es++[(a,b)]) u a:=fun e=>F ((J u a O ha).1 e)
  have ac:dC up u=dC up b→Conn (es++[(a,b)]) u b:=fun e=>F ((J u b O hb).1 e)
  have ad:dC up v=dC up a→Conn (es++[(a,b)]) v a:=fun e=>F ((J v a hv ha).1 e)
  have hbv:dC up v=dC up b→Conn (es++[(a,b)]) v b:=fun e=>F ((J v b hv hb).1 e)
  have key:∀ w,w<up.length→(dC up w=dC up a∨dC up w=dC up b)→Conn (es++[(a,b)]) w a:=fun w hw Y=>by
   rcases Y with e|e
   ·exact F ((J w a hw ha).1 e)
   ·exact (F ((J w b hw hb).1 e)).trans Z.symm
  by_cases h1:dC up u=max (dC up a) (dC up b)<;>by_cases h2:dC up v=max (dC up a) (dC up b)
  ·exact F ((J u v O hv).1 (h1.trans h2.symm))
  ·rw [if_pos h1,if_neg h2] at h
   exact (key u O aA).trans (key v hv aA).symm
  ·rw [if_neg h1,if_pos h2] at h
   exact (key u O aA).trans (key v hv aA).symm
  ·rw [if_neg h1,if_neg h2] at h
   exact F ((J u v O hv).1 h)
 ·intro h
  refine conn_eq_of_up (es:=es++[(a,b)]) (f:=fun w=>if dC up w=max (dC up a) (dC up b) then min (dC up a) (dC up b) else dC up w) ?_ h;intro e he;rw [List.mem_append,List.mem_singleton] at he
  rcases he with he|rfl
  ·obtain ⟨h1,h2⟩:=aa e he
   have:=(J e.1 e.2 h1 h2).2 (.edge (.inl he))
   simp only [this]
  ·dsimp only
   split<;>split<;>omega
def nxt (p:List Nat):Nat→Nat
 |0=>0
 |k+1=>if p[k]? =some (nxt p k) then nxt p k+1 else nxt p k
def Tidy (p:List Nat):Prop:=∀ k (h:k<p.length),p[k]≤nxt p k
theorem nK (p q:List Nat):∀ k,(∀ j,j<k→p[j]? =q[j]?)→nxt p k=nxt q k
 |0,_=>rfl
 |k+1,h=>by rw [nxt,nxt,nK p q k (fun j hj=>h j aA),h k aA]
theorem nxt_le (p:List Nat):∀ k,nxt p k≤k
 |0=>Nat.le_refl _
 |k+1=>by have:=nxt_le p k;rw [nxt];split<;>omega
theorem nxt_mono (p:List Nat) {j k:Nat} (h:j≤k):nxt p j≤nxt p k:=by
 induction k with
 |zero=>rw [Nat.le_zero.1 h];exact Nat.le_refl _
 |succ k ih=>
  rcases Nat.lt_or_ge j (k+1) with h' |h'
  ·have:=ih aA;rw [nxt];split<;>omega
  ·rw [show j=k+1 from by omega];exact Nat.le_refl _
theorem seen {p:List Nat}:∀ k,k≤p.length→∀ x,x<nxt p k→∃ j,∃ h:j<p.length,j<k∧p[j]=x
 |0,_,x,hx=>by simp [nxt] at hx
 |k+1,hk,x,hx=>by
  rw [nxt] at hx
  split at hx
  ·rename_i he
   by_cases J:x<nxt p k
   ·obtain ⟨j,h,hj,e⟩:=seen k aA x J
    exact ⟨j,h,aA,e⟩
   ·have F:k<p.length:=aA
    rw [List.getElem?_eq_getElem F] at he;exact ⟨k,F,aA,by have:=Option.some.inj he;omega⟩
  ·obtain ⟨j,h,hj,e⟩:=seen k aA x hx
   exact ⟨j,h,aA,e⟩
theorem below_next {p:List Nat} (J:Tidy p) {j k:Nat} (h:j<p.length) (F:j<k):p[j]<nxt p k:=by
 have h1:p[j]<nxt p (j+1):=by
  have:=J j h
  rw [nxt,List.getElem?_eq_getElem h]
  split
  ·rename_i e;have:=Option.some.inj e;omega
  ·rename_i e;have:p[j]≠nxt p j:=fun e' =>e (by rw [e']);omega
 exact Nat.lt_of_lt_of_le h1 (nxt_mono p F)
theorem tidy_unique {p q : List Nat} (hp : Tidy p) (hq : Tidy q) (hl : p.length = q.length) (h : ∀ i j (hi : i < p.length) (hj : j < p.length), p[i] = p[j] ↔ q[i]'(hl ▸ hi) = q[j]'(hl ▸ hj)) : p = q := by
 have key:∀ k j:Nat,j<k→p[j]? =q[j]? :=by
  intro k
  induction k with
  |zero=>intro j hj;omega
  |succ k ih=>
   intro j hj
   rcases Nat.lt_or_ge j k with h' |h'
   ·exact ih j h'
   ·obtain rfl:j=k:=aA
    by_cases F:j<p.length
    ·have O:j<q.length:=hl▸F
     have hn:=nK p q j ih
     rw [List.getElem?_eq_getElem F,List.getElem?_eq_getElem O]
     congr 1
     have a:=hp j F
     have b:=hq j O
     by_cases e1:p[j]<nxt p j
     ·obtain ⟨i,hi,J,e⟩:=seen j aA _ e1
      have e2:=(h i j hi F).1 e
      have U:=ih i J
      rw [List.getElem?_eq_getElem hi,List.getElem?_eq_getElem (hl▸hi)] at U;have:=Option.some.inj U
      omega
     ·by_cases e2:q[j]<nxt q j
      ·obtain ⟨i,hi,J,e⟩:=seen j aA _ e2
       have hi' :i<p.length:=hl▸hi
       have X:=(h i j hi' F).2 e
       have:=below_next hp hi' J
       omega
      ·omega
    ·rw [List.getElem?_eq_none aA,List.getElem?_eq_none aA]
 exact List.ext_getElem? fun i=>key (i+1) i aA
structure IsParts (n:Nat) (es:List (Nat×Nat)) (p:List Nat):Prop where
 len:p.length=n
 tidy:Tidy p
 conn:∀ u v (hu:u<p.length) (hv:v<p.length),p[u]=p[v]↔Conn es u v
theorem IsParts.unique {n:Nat} {es F:List (Nat×Nat)} {p q:List Nat} (hp:IsParts n es p) (hq:IsParts n F q) (h:∀ u v,u<n→v<n→(Conn es u v↔Conn F u v)):p=q:=
 tidy_unique hp.tidy hq.tidy (hp.len.trans hq.len.symm) fun i j hi hj=>
  (hp.conn i j hi hj).trans ((h i j (hp.len▸hi) (hp.len▸hj)).trans (hq.conn i j (by rw [hq.len,← hp.len];exact hi) (by rw [hq.len,← hp.len];exact hj)).symm)
structure kA (up:List Nat) (k:Nat) (out:List Nat) (next:Nat):Prop where
 len:out.length=up.length
 next:nxt out k=next
 tidy:∀ j (h:j<out.length),j<k→out[j]≤nxt out j
 same:∀ i j (hi:i<out.length) (hj:j<out.length),i<k→j<k→(out[i]=out[j]↔dC up i=dC up j)
theorem labelled_start (up:List Nat):kA up 0 (List.replicate up.length 0) 0:=
 ⟨aN,rfl,fun j _ h=>aA,fun i j _ _ h=>aA⟩
theorem nxt_set {out:List Nat} {k x:Nat}:∀ j,j≤k→nxt (out.set k x) j=nxt out j:=fun j hj=>
 nK _ _ j fun i hi=>by rw [List.getElem?_set_ne aA]
theorem labelled_new {up out:List Nat} {k next:Nat} (hd:oV up) (h:kA up k out next) (hk:k<up.length) (hr:dC up k=k):kA up (k+1) (out.set k next) (next+1):=by
 have hl:=h.len
 have hb:∀ j (hj:j<out.length),j<k→out[j]<next:=fun j hj F=>by
  have h1:=h.tidy j hj F
  have h2:nxt out (j+1)≤nxt out k:=nxt_mono out F
  rw [nxt,List.getElem?_eq_getElem hj] at h2;have h3:=h.next
  split at h2
  ·rename_i e;have:=Option.some.inj e;omega
  ·rename_i e;have:out[j]≠nxt out j:=fun e' =>e (by rw [e']);omega
 refine ⟨by simp [hl],?_,fun j hj F=>?_,fun i j hi hj J F=>?_⟩
 ·rw [nxt,nxt_set k (Nat.le_refl _),h.next,if_pos (by rw [List.getElem?_set_self aA])]
 ·rw [List.length_set] at hj
  rw [nxt_set j aA,List.getElem_set]
  split
  ·rename_i e;subst e;rw [h.next];exact Nat.le_refl _
  ·exact h.tidy j hj aA
 ·rw [List.length_set] at hi hj
  rw [List.getElem_set,List.getElem_set];have hne:∀ j (hj:j<out.length),j<k→dC up j≠k:=fun j _ F e=>by have:=pA (up:=up) j;omega
  by_cases e1:k=i<;>by_cases e2:k=j
  ·subst e1;subst e2;simp
  ·subst e1;rw [if_pos rfl,if_neg e2,hr]
   have:=hb j hj aA
   have:=hne j hj aA
   constructor
   ·intro;omega
   ·intro e;exact absurd e.symm this
  ·subst e2;rw [if_pos rfl,if_neg e1,hr]
   have:=hb i hi aA
   have:=hne i hi aA
   constructor
   ·intro;omega
   ·intro e;exact absurd e this
  ·rw [if_neg e1,if_neg e2];exact h.same i j hi hj aA aA
theorem labelled_old {up out:List Nat} {k next:Nat} (hd:oV up) (h:kA up k out next) (hk:k<up.length) (hr:dC up k≠k) (F:dC up k<out.length):kA up (k+1) (out.set k out[dC up k]) next:=by
 have hl:=h.len
 have J:dC up k<k:=by have:=pA (up:=up) k;omega
 have hlt:out[dC up k]<next:=by
  have h1:=h.tidy _ F J
  have h2:nxt out (dC up k+1)≤nxt out k:=nxt_mono out J
  rw [nxt,List.getElem?_eq_getElem F] at h2;have h3:=h.next
  split at h2
  ·rename_i e;have:=Option.some.inj e;omega
  ·rename_i e;have:out[dC up k]≠nxt out (dC up k):=fun e' =>e (by rw [e']);omega
 have O:=rootOf_idem hd hk
 refine ⟨by simp [hl],?_,fun j hj U=>?_,fun i j hi hj X U=>?_⟩
 ·rw [nxt,nxt_set k (Nat.le_refl _),h.next,if_neg]
  rw [List.getElem?_set_self aA];intro e;have:=Option.some.inj e;omega
 ·rw [List.length_set] at hj
  rw [nxt_set j aA,List.getElem_set]
  split
  ·rename_i e;subst e;rw [h.next];omega
  ·exact h.tidy j hj aA
 ·rw [List.length_set] at hi hj
  rw [List.getElem_set,List.getElem_set]
  by_cases e1:k=i<;>by_cases e2:k=j
  ·subst e1;subst e2;simp
  ·subst e1;rw [if_pos rfl,if_neg e2,h.same _ j F hj J aA,O]
  ·subst e2;rw [if_pos rfl,if_neg e1,h.same i _ hi F aA J,O]
  ·rw [if_neg e1,if_neg e2];exact h.same i j hi hj aA aA
theorem labelled_end {up out:List Nat} {es:List (Nat×Nat)} {next:Nat} (h:kA up up.length out next) (J:Tells up es):IsParts up.length es out:=
 ⟨h.len,fun k hk=>h.tidy k hk (by rw [← h.len];exact hk),fun u v F hv=>
  (h.same u v F hv (by rw [← h.len];exact F) (by rw [← h.len];exact hv)).trans (J u v (by rw [← h.len];exact F) (by rw [← h.len];exact hv))⟩
theorem rootOf_two {up:List Nat} (hd:oV up) {v:Nat} (h:v<up.length) (h2:up[v]<up.length):dC up up[up[v]]=dC up v:=by
 by_cases hs:up[v]=v
 ·simp only [hs]
 ·rw [iS hd h hs]
  by_cases F:up[up[v]]=up[v]
  ·rw [F]
  ·rw [iS hd h2 F]
theorem down_range (n:Nat):oV (List.range n):=fun i h=>aN
theorem up_range {up:List Nat} {n:Nat} (hl:up.length=n) (h:∀ j (hj:j<up.length),up[j]=j):up=List.range n:=
 List.ext_getElem (by simp [hl]) fun i h1 h2=>by simp [h i h1]
theorem bS {N:Int} {l:List Arc} (h:(cG N l).2=0):1≤N∧N≤1024∧l.length≤8192∧∀ k (hk:k<l.length),0≤l[k].src∧l[k].src<N∧0≤l[k].dst∧l[k].dst<N:=by
 unfold cG at h
 split at h
 ·simp at h
 ·split at h
  ·simp at h
  ·rename_i h1 h2
   refine ⟨aA,aA,aA,fun k hk=>?_⟩
   split at h
   ·simp at h
   ·rename_i hn
    rw [List.findIdx?_eq_none_iff] at hn;have:=hn _ (List.getElem_mem hk)
    unfold gB at this
    simp at this;omega
theorem ends2_take {l:List Arc} {k:Nat} (hk:k<l.length):ends2 (l.take (k+1))=ends2 (l.take k)++[(l[k].src.toNat,l[k].dst.toNat)]:=by
 unfold ends2;rw [List.take_succ_eq_append_getElem hk,List.map_append];rfl
theorem ends2_lt {l:List Arc} {n:Nat} {up:List Nat} (F:up.length=n) (hg:∀ k (hk:k<l.length),0≤l[k].src∧l[k].src<(n:Int)∧0≤l[k].dst∧l[k].dst<(n:Int)) (k:Nat):
  ∀ e∈ends2 (l.take k),e.1<up.length∧e.2<up.length:=by
 intro e he;obtain ⟨x,hx,rfl⟩:=List.mem_map.1 he
 obtain ⟨j,hj,rfl⟩:=List.mem_iff_getElem.1 (List.mem_of_mem_take hx)
 have:=hg j hj
 dsimp only;omega
theorem tells_roots {up F:List Nat} {es:List (Nat×Nat)} (h:Tells up es) (hl:F.length=up.length) (hr:∀ x,dC F x=dC up x):Tells F es:=fun u v J hv=>by
 rw [hr,hr];exact h u v (hl▸J) (hl▸hv)
theorem labelled_roots {up F:List Nat} {k nx:Nat} {out:List Nat} (h:kA up k out nx) (hl:F.length=up.length) (hr:∀ x,dC F x=dC up x):kA F k out nx:=
 ⟨h.len.trans hl.symm,h.next,h.tidy,fun i j hi hj a b=>by rw [hr,hr];exact h.same i j hi hj a b⟩
theorem tells_next {up F:List Nat} {es:List (Nat×Nat)} {a b:Nat} (hd:oV up) (O:oV F) (U:Tells up es) (hl:F.length=up.length) (hr:∀ x,dC F x=dC up x)
  (J:∀ e∈es,e.1<up.length∧e.2<up.length) (ha:a<up.length) (hb:b<up.length):
  Tells (F.set (max (dC up a) (dC up b)) (min (dC up a) (dC up b))) (es++[(a,b)]):=by
 have:=tells_join O (tells_roots U hl hr) (fun e he=>by rw [hl];exact J e he) (a:=a) (b:=b) (hl▸ha) (hl▸hb)
 rw [hr,hr] at this;exact this
theorem parts_end {up out:List Nat} {es:List (Nat×Nat)} {n k nx:Nat} (F:up.length=n) (h:kA up k out nx) (J:Tells up es) (hk:k=n):IsParts n es out:=by
 subst hk;subst F;exact labelled_end h J
theorem idxs_mem {α:Type} {p:α→Bool} {l:List α} {x:Int} (h:x∈gF p l):∃ (i:Nat) (hi:i<l.length),x=(i:Int)∧p l[i]=true:=by
 unfold gF at h
 obtain ⟨y,hy,rfl⟩:=List.mem_map.1 h
 rw [List.mem_filter] at hy;obtain ⟨a,i⟩:=y
 have:=List.mem_zipIdx hy.1
 have hi:i<l.length:=by simpa using this.2.1
 refine ⟨i,hi,rfl,?_⟩;have e:a=l[i]:=by simpa using this.2.2
 rw [← e];exact hy.2
theorem l7 {α:Type} (p:α→Bool) (l:List α):(gF p l).length=l.countP p:=by
 unfold gF
 rw [List.length_map,← List.countP_eq_length_filter];have:=List.countP_map (p:=p) (f:=Prod.fst) (l:=l.zipIdx)
 rw [List.zipIdx_map_fst] at this;rw [this];rfl
end Go.Proofs.YthpkelafioikaaaGreat
namespace Go.Proofs.YthpkelafioikaaaGreat
open Go Fly
set_option linter.unusedVariables false
set_option linter.unusedSimpArgs false
structure Ent where
 id:Nat
 key:Int
deriving DecidableEq
def eD (x:Ent):List Value:=[.int .i64 (x.id:Int),.int .u64 x.key]
theorem eB (x:Ent):(eD x).length=2:=rfl
def elt (a b:Ent):Prop:=a.key<b.key∨(a.key=b.key∧a.id<b.id)
instance (a b:Ent):Decidable (elt a b):=by unfold elt;infer_instance
def ele (a b:Ent):Prop:=¬ elt b a
theorem lJ {a b c:Ent} (h:ele a b) (k:ele b c):ele a c:=by unfold ele elt at*;omega
theorem ele_of {a b:Ent} (h:elt a b):ele a b:=by unfold ele elt at*;omega
theorem pU (a:Ent):ele a a:=by unfold ele elt;omega
def eg (l:List Ent) (i:Nat):Ent:=l.getD i ⟨0,0⟩
theorem i5 {l:List Ent} {i:Nat} (h:i<l.length):eg l i=l[i]:=by simp [eg,List.getD_eq_getElem?_getD,h]
def par (c:Nat):Nat:=(c - 1) / 2
def sw (l:List Ent) (i j:Nat):List Ent:=(l.set i (eg l j)).set j (eg l i)
theorem sw_len (l:List Ent) (i j:Nat):(sw l i j).length=l.length:=by simp [sw]
theorem eg_sw {l:List Ent} {i j:Nat} (hi:i<l.length) (hj:j<l.length) (k:Nat):eg (sw l i j) k=if k=j then eg l i else if k=i then eg l j else eg l k:=by
 unfold sw
 by_cases hk:k<l.length
 ·rw [i5 (by simpa using hk),List.getElem_set,List.getElem_set]
  by_cases e1:k=j
  ·simp [e1]
  ·by_cases e2:k=i
   ·rw [if_neg (fun h=>e1 h.symm),if_pos e2.symm,if_neg e1,if_pos e2]
   ·rw [if_neg (fun h=>e1 h.symm),if_neg (fun h=>e2 h.symm),if_neg e1,if_neg e2,i5 hk]
 ·have h1:k≠j:=aA
  have h2:k≠i:=aA
  rw [if_neg h1,if_neg h2];simp [eg,List.getD_eq_getElem?_getD,Nat.le_of_not_lt hk]
theorem sw_perm {l:List Ent} {i j:Nat} (hi:i<l.length) (hj:j<l.length):(sw l i j).Perm l:=by
 unfold sw;rw [i5 hi,i5 hj];exact List.set_set_perm hi hj
theorem sw_drop {l:List Ent} {i j n:Nat} (hi:i<n) (hj:j<n):(sw l i j).drop n=l.drop n:=by
 unfold sw;rw [List.drop_set_of_lt hj,List.drop_set_of_lt hi]
def nW (l:List Ent) (n:Nat):Prop:=∀ c,0<c→c<n→ele (eg l (par c)) (eg l c)
theorem full_root {l:List Ent} {n:Nat} (h:nW l n):∀ i,i<n→ele (eg l 0) (eg l i):=by
 intro i
 induction i using Nat.strongRecOn with
 |_ i ih=>
  intro hi
  rcases Nat.eq_zero_or_pos i with rfl|F
  ·exact pU _
  ·exact lJ (ih (par i) (by unfold par;omega) (by unfold par;omega)) (h i F hi)
structure UpOk (l:List Ent) (n j:Nat):Prop where
 u1:∀ c,0<c→c<n→c≠j→ele (eg l (par c)) (eg l c)
 u2:0<j→∀ c,0<c→c<n→par c=j→ele (eg l (par j)) (eg l c)
theorem up_zero {l:List Ent} {n:Nat} (h:UpOk l n 0):nW l n:=fun c F hn=>h.u1 c F hn aA
theorem up_stop {l:List Ent} {n j:Nat} (h:UpOk l n j) (hs:¬ elt (eg l j) (eg l (par j))):nW l n:=fun c F hn=>by
 by_cases e:c=j
 ·subst e;exact hs
 ·exact h.u1 c F hn e
theorem up_step {l:List Ent} {n j:Nat} (h:UpOk l n j) (Y:0<j) (hj:j<n) (hn:n≤l.length) (hs:elt (eg l j) (eg l (par j))):UpOk (sw l (par j) j) n (par j):=by
 have hp:par j<j:=by unfold par;omega
 have G:=eg_sw (l:=l) (i:=par j) (j:=j) aA aA
 refine ⟨fun c J F hc=>?_,fun U c J F hc=>?_⟩
 ·rw [G (par c),G c]
  by_cases e1:c=j
  ·subst e1
   rw [if_neg (show par c≠c by omega),if_pos rfl,if_pos rfl];exact ele_of hs
  ·rw [if_neg e1,if_neg hc]
   by_cases e2:par c=j
   ·rw [if_pos e2];exact h.u2 Y c J F e2
   ·rw [if_neg e2]
    by_cases O:par c=par j
    ·rw [if_pos O]
     exact lJ (ele_of hs) (by have:=h.u1 c J F e1;rwa [O] at this)
    ·rw [if_neg O];exact h.u1 c J F e1
 ·have X:par (par j)<par j:=by unfold par at*;omega
  rw [G (par (par j)),G c,if_neg aA,if_neg aA];have hb:=h.u1 (par j) U aA aA
  by_cases e1:c=j
  ·rw [if_pos e1];exact hb
  ·rw [if_neg e1,if_neg (fun e=>by rw [e] at hc;omega)]
   exact lJ hb (by have:=h.u1 c J F e1;rwa [hc] at this)
structure DnOk (l:List Ent) (n i0 i:Nat):Prop where
 d1:∀ c,0<c→c<n→par c≠i→(c≠i∨i≠i0)→ele (eg l (par c)) (eg l c)
 d2:0<i→∀ c,0<c→c<n→par c=i→ele (eg l (par i)) (eg l c)
theorem dn_stop {l:List Ent} {n F i:Nat} (h:DnOk l n F i) (hs:∀ c,0<c→c<n→par c=i→ele (eg l i) (eg l c)):∀ c,0<c→c<n→(c≠i∨i≠F)→ele (eg l (par c)) (eg l c):=fun c J O hc=>by
 by_cases e:par c=i
 ·rw [e];exact hs c J O e
 ·exact h.d1 c J O e hc
theorem dn_moved {l:List Ent} {n F i:Nat} (h:∀ c,0<c→c<n→(c≠i∨i≠F)→ele (eg l (par c)) (eg l c)) (hi:F<i):nW l n:=fun c J O=>h c J O (.inr aA)
theorem dn_stays {l:List Ent} {n i:Nat} (h:∀ c,0<c→c<n→(c≠i∨i≠i)→ele (eg l (par c)) (eg l c)) (hd:DnOk l n i i):UpOk l n i:=
 ⟨fun c F J hc=>h c F J (.inl hc),hd.d2⟩
theorem dn_step {l:List Ent} {n X i j:Nat} (h:DnOk l n X i) (aa:X≤i) (Y:0<j) (hj:par j=i) (O:j<n) (hn:n≤l.length) (hs:elt (eg l j) (eg l i)) (hb:∀ c,0<c→c<n→par c=i→ele (eg l j) (eg l c)):DnOk (sw l i j) n X j:=by
 have ab:i<j:=by unfold par at hj;omega
 have G:=eg_sw (l:=l) (i:=i) (j:=j) aA aA
 refine ⟨fun c F J hc _=>?_,fun _ c F J hc=>?_⟩
 ·rw [G (par c),G c,if_neg hc]
  by_cases e1:c=j
  ·subst e1;rw [if_pos hj,if_pos rfl];exact ele_of hs
  ·rw [if_neg e1]
   by_cases e2:par c=i
   ·rw [if_pos e2,if_neg (by unfold par at e2;omega)];exact hb c F J e2
   ·rw [if_neg e2]
    by_cases U:c=i
    ·subst U;rw [if_pos rfl];exact h.d2 F j Y O hj
    ·rw [if_neg U];exact h.d1 c F J e2 (.inl U)
 ·rw [G (par j),G c,hj,if_neg aA,if_pos rfl]
  have Z:j<c:=by unfold par at hc;omega
  rw [if_neg aA,if_neg aA];have:=h.d1 c F J aA (.inl aA)
  rwa [hc] at this
structure HOk (l:List Ent) (at_:List Int):Prop where
 h1:∀ i,i<l.length→at_[(eg l i).id]? =some (i:Int)
 h2:∀ k,k<at_.length→at_[k]? =some (-1)∨∃ i:Nat,i<l.length∧at_[k]? =some (i:Int)∧(eg l i).id=k
theorem HOk.lt {l:List Ent} {at_:List Int} (h:HOk l at_) {i:Nat} (hi:i<l.length):(eg l i).id<at_.length:=by
 rcases Nat.lt_or_ge (eg l i).id at_.length with h' |h'
 ·exact h'
 ·have:=h.h1 i hi;rw [List.getElem?_eq_none h'] at this;cases this
theorem HOk.inj {l:List Ent} {at_:List Int} (h:HOk l at_) {i j:Nat} (hi:i<l.length) (hj:j<l.length) (e:(eg l i).id=(eg l j).id):i=j:=by
 have a:=h.h1 i hi
 have b:=h.h1 j hj
 rw [e,b] at a;have:=Option.some.inj a;omega
def swAt (l:List Ent) (at_:List Int) (i j:Nat):List Int:=(at_.set (eg l j).id (i:Int)).set (eg l i).id (j:Int)
theorem swAt_len (l:List Ent) (at_:List Int) (i j:Nat):(swAt l at_ i j).length=at_.length:=by simp [swAt]
theorem HOk.sw {l:List Ent} {at_:List Int} (h:HOk l at_) {i j:Nat} (hi:i<l.length) (hj:j<l.length):HOk (sw l i j) (swAt l at_ i j):=by
 have G:=eg_sw (l:=l) hi hj
 have A:∀ k,(swAt l at_ i j)[k]? =if (eg l i).id=k then some (j:Int) else if (eg l j).id=k then some (i:Int) else at_[k]? :=fun k=>by
  unfold swAt
  rw [List.getElem?_set,List.getElem?_set];have a:=h.lt hi
  have b:=h.lt hj
  simp only [List.length_set,a,b,if_true]
 refine ⟨fun p hp=>?_,fun k hk=>?_⟩
 ·rw [sw_len] at hp
  rw [G p,A]
  by_cases e1:p=j
  ·rw [if_pos e1,if_pos rfl,e1]
  ·rw [if_neg e1]
   by_cases e2:p=i
   ·subst e2
    rw [if_pos rfl,if_neg (fun e=>e1 (h.inj hp hj e)),if_pos rfl]
   ·rw [if_neg e2,if_neg (fun e=>e2 (h.inj hp hi e.symm)),if_neg (fun e=>e1 (h.inj hp hj e.symm))]
    exact h.h1 p hp
 ·rw [swAt_len] at hk
  rw [A]
  by_cases e1:(eg l i).id=k
  ·exact .inr ⟨j,by rw [sw_len];exact hj,by rw [if_pos e1],by rw [G j,if_pos rfl];exact e1⟩
  ·rw [if_neg e1]
   by_cases e2:(eg l j).id=k
   ·refine .inr ⟨i,by rw [sw_len];exact hi,by rw [if_pos e2],?_⟩
    rw [G i]
    split
    ·rename_i e;subst e;exact e2
    ·rw [if_pos rfl];exact e2
   ·rw [if_neg e2]
    rcases h.h2 k hk with h' |⟨p,hp,ep,F⟩
    ·exact .inl h'
    ·refine .inr ⟨p,by rw [sw_len];exact hp,ep,?_⟩
     rw [G p,if_neg (fun e=>e2 (by rw [← e];exact F)),if_neg (fun e=>e1 (by rw [← e];exact F))];exact F
theorem eg_app {l:List Ent} {e:Ent} {i:Nat}:eg (l++[e]) i=if i<l.length then eg l i else if i=l.length then e else ⟨0,0⟩:=by
 unfold eg
 rw [List.getD_eq_getElem?_getD,List.getD_eq_getElem?_getD]
 by_cases h:i<l.length
 ·rw [if_pos h,List.getElem?_append_left h]
 ·rw [if_neg h,List.getElem?_append_right aA]
  by_cases h' :i=l.length
  ·subst h';simp
  ·rw [if_neg h',List.getElem?_eq_none (by simp;omega)];rfl
theorem HOk.push {l:List Ent} {at_:List Int} (h:HOk l at_) {e:Ent} (he:at_[e.id]? =some (-1)):HOk (l++[e]) (at_.set e.id (l.length:Int)):=by
 have J:e.id<at_.length:=(List.getElem?_eq_some_iff.1 he).1
 refine ⟨fun i hi=>?_,fun k hk=>?_⟩
 ·rw [eg_app]
  by_cases F:i<l.length
  ·rw [if_pos F,List.getElem?_set_ne,h.h1 i F]
   intro e';have:=h.h1 i F;rw [← e',he] at this;have:=Option.some.inj this;omega
  ·have:i=l.length:=by simp at hi;omega
   rw [if_neg F,if_pos this,List.getElem?_set_self J,this]
 ·rw [List.length_set] at hk
  by_cases e' :e.id=k
  ·subst e'
   exact .inr ⟨l.length,aN,by rw [List.getElem?_set_self J],by rw [eg_app,if_neg aA,if_pos rfl]⟩
  ·rw [List.getElem?_set_ne e']
   rcases h.h2 k hk with h' |⟨p,hp,ep,O⟩
   ·exact .inl h'
   ·exact .inr ⟨p,by simp;omega,ep,by rw [eg_app,if_pos hp];exact O⟩
theorem eg_take {l:List Ent} {n i:Nat} (h:i<n):eg (l.take n) i=eg l i:=by
 unfold eg;rw [List.getD_eq_getElem?_getD,List.getD_eq_getElem?_getD,List.getElem?_take_of_lt h]
theorem HOk.pop {l:List Ent} {at_:List Int} (h:HOk l at_) {n:Nat} (hn:l.length=n+1):HOk (l.take n) (at_.set (eg l n).id (-1)):=by
 have hlen:(l.take n).length=n:=by simp;omega
 refine ⟨fun i hi=>?_,fun k hk=>?_⟩
 ·rw [hlen] at hi
  rw [eg_take hi,List.getElem?_set_ne,h.h1 i aA];intro e;have:=h.inj aA aA e;omega
 ·rw [List.length_set] at hk
  by_cases e:(eg l n).id=k
  ·rw [← e];exact .inl (by rw [List.getElem?_set_self aA])
  ·rw [List.getElem?_set_ne e]
   rcases h.h2 k hk with h' |⟨p,hp,ep,F⟩
   ·exact .inl h'
   ·have:p≠n:=fun e' =>e (by rw [← e'];exact F)
    exact .inr ⟨p,aA,ep,by rw [eg_take aA];exact F⟩
theorem eg_set {l:List Ent} {i:Nat} {e:Ent} (h:i<l.length) (k:Nat):eg (l.set i e) k=if i=k then e else eg l k:=by
 unfold eg;rw [List.getD_eq_getElem?_getD,List.getD_eq_getElem?_getD,List.getElem?_set]
 split
 ·rename_i e';subst e';simp [h]
 ·rfl
theorem HOk.key {l:List Ent} {at_:List Int} (h:HOk l at_) {i:Nat} (hi:i<l.length) (x:Int):HOk (l.set i ⟨(eg l i).id,x⟩) at_:=by
 have G:=eg_set (e:=⟨(eg l i).id,x⟩) hi
 have I:∀ p,(eg (l.set i ⟨(eg l i).id,x⟩) p).id=(eg l p).id:=fun p=>by rw [G p];split<;>simp_all
 refine ⟨fun p hp=>by rw [I];exact h.h1 p (by simpa using hp),fun k hk=>?_⟩
 rcases h.h2 k hk with h' |⟨p,hp,ep,F⟩
 ·exact .inl h'
 ·exact .inr ⟨p,by simpa using hp,ep,by rw [I];exact F⟩
theorem up_push {l:List Ent} {e:Ent} (h:nW l l.length):UpOk (l++[e]) (l.length+1) l.length:=by
 refine ⟨fun c F J hc=>?_,fun O c F J hc=>?_⟩
 ·rw [eg_app,eg_app,if_pos (by unfold par;omega),if_pos aA]
  exact h c F aA
 ·unfold par at hc;omega
theorem dn_key {l:List Ent} {i:Nat} {x:Int} (h:nW l l.length) (hi:i<l.length):DnOk (l.set i ⟨(eg l i).id,x⟩) l.length i i:=by
 have G:=eg_set (e:=⟨(eg l i).id,x⟩) hi
 refine ⟨fun c F J hc U=>?_,fun O c F J hc=>?_⟩
 ·rw [G (par c),G c,if_neg (fun e=>hc e.symm),if_neg aA];exact h c F J
 ·rw [G (par i),G c,if_neg (by unfold par;omega),if_neg (by unfold par at hc;omega)]
  have a:=h i O hi
  have b:=h c F J
  rw [hc] at b;exact lJ a b
theorem dn_swap {l:List Ent} {i n:Nat} (h:nW l l.length) (hn:l.length=n+1) (hi:i≤n):DnOk (sw l i n) n i i:=by
 have G:=eg_sw (l:=l) (i:=i) (j:=n) aA aA
 refine ⟨fun c F J hc U=>?_,fun O c F J hc=>?_⟩
 ·rw [G (par c),G c,if_neg (by unfold par;omega),if_neg hc,if_neg aA,if_neg aA];exact h c F aA
 ·rw [G (par i),G c,if_neg (by unfold par;omega),if_neg (by unfold par;omega),if_neg aA,if_neg (by unfold par at hc;omega)]
  have a:=h i O aA
  have b:=h c F aA
  rw [hc] at b;exact lJ a b
theorem full_take {l:List Ent} {n:Nat} (h:nW l n):nW (l.take n) n:=fun c J F=>by
 rw [eg_take (by unfold par;omega),eg_take F];exact h c J F
structure HT (T:List (Option Int)) (l:List Ent):Prop where
 inT:∀ e∈l,T[e.id]? =some (some e.key)
 inL:∀ k x,T[k]? =some (some x)→(⟨k,x⟩:Ent)∈l
 nd:(l.map Ent.id).Nodup
theorem HT.perm {T:List (Option Int)} {l l' :List Ent} (h:HT T l) (p:l'.Perm l):HT T l' :=
 ⟨fun e he=>h.inT e (p.mem_iff.1 he),fun k x hk=>p.mem_iff.2 (h.inL k x hk),(p.map _).nodup_iff.2 h.nd⟩
theorem HT.nil (n:Nat):HT (List.replicate n none) []:=
 ⟨fun e he=>by simp at he,fun k x hk=>(by rw [List.getElem?_replicate] at hk;split at hk<;>cases hk),aN⟩
theorem HT.cut {T:List (Option Int)} {l:List Ent} {e:Ent} (h:HT T (e::l)):HT (T.set e.id none) l:=by
 have F:=h.nd
 rw [List.map_cons,List.nodup_cons] at F;have hne:∀ x∈l,e.id≠x.id:=fun x hx e' =>F.1 (by rw [e'];exact List.mem_map_of_mem hx)
 refine ⟨fun x hx=>?_,fun k x hk=>?_,F.2⟩
 ·rw [List.getElem?_set_ne (hne x hx)];exact h.inT x (List.mem_cons_of_mem _ hx)
 ·by_cases J:e.id=k
  ·subst J;rw [List.getElem?_set] at hk;simp at hk
  ·rw [List.getElem?_set_ne J] at hk
   rcases List.mem_cons.1 (h.inL k x hk) with e' |h'
   ·rw [← e'] at J;exact absurd rfl J
   ·exact h'
theorem HT.add {T:List (Option Int)} {l:List Ent} {e:Ent} (h:HT T l) (he:T[e.id]? =some none):HT (T.set e.id (some e.key)) (e::l):=by
 have hlt:e.id<T.length:=(List.getElem?_eq_some_iff.1 he).1
 have hne:∀ x∈l,e.id≠x.id:=fun x hx e' =>by have:=h.inT x hx;rw [← e',he] at this;cases this
 refine ⟨fun x hx=>?_,fun k x hk=>?_,?_⟩
 ·rcases List.mem_cons.1 hx with rfl|hx
  ·rw [List.getElem?_set_self hlt]
  ·rw [List.getElem?_set_ne (hne x hx)];exact h.inT x hx
 ·by_cases F:e.id=k
  ·subst F;rw [List.getElem?_set_self hlt] at hk
   have:=Option.some.inj (Option.some.inj hk)
   rw [← this];exact List.mem_cons_self ..
  ·rw [List.getElem?_set_ne F] at hk;exact List.mem_cons_of_mem _ (h.inL k x hk)
 ·rw [List.map_cons,List.nodup_cons]
  refine ⟨fun hm=>?_,h.nd⟩;obtain ⟨x,hx,e'⟩:=List.mem_map.1 hm
  exact hne x hx e'.symm
theorem erase_perm:∀ (l:List Ent) (i:Nat) (h:i<l.length),(l[i]::l.eraseIdx i).Perm l
 |x::l,0,_=>aN
 |x::l,i+1,h=>by
  simp only [List.getElem_cons_succ,List.eraseIdx_cons_succ];exact (List.Perm.swap x _ _).trans ((erase_perm l i (by simpa using h)).cons x)
theorem HT.key {T:List (Option Int)} {l:List Ent} {i:Nat} (h:HT T l) (hi:i<l.length) (x:Int):HT (T.set (eg l i).id (some x)) (l.set i ⟨(eg l i).id,x⟩):=by
 have p1:(l[i]::l.eraseIdx i).Perm l:=erase_perm l i hi
 have hs : (l.set i ⟨(eg l i).id, x⟩)[i]'(by simpa using hi) = ⟨(eg l i).id, x⟩ := aN
 have p2:((⟨(eg l i).id,x⟩:Ent)::l.eraseIdx i).Perm (l.set i ⟨(eg l i).id,x⟩):=by
  have:=erase_perm (l.set i ⟨(eg l i).id,x⟩) i (by simpa using hi)
  rwa [hs,List.eraseIdx_set_eq] at this
 have h1:=(h.perm p1).cut
 rw [← i5 hi] at h1
 have hlt:(eg l i).id<T.length:=by
  have:=h.inT (eg l i) (by rw [i5 hi];exact List.getElem_mem hi)
  exact (List.getElem?_eq_some_iff.1 this).1
 have h2:=h1.add (e:=⟨(eg l i).id,x⟩) (by show (T.set (eg l i).id none)[(eg l i).id]? =_;rw [List.getElem?_set_self hlt])
 rw [List.set_set] at h2;exact h2.perm p2.symm
def kC (T:List (Option Int)):Nat:=T.countP Option.isSome
theorem HT.count:∀ {l:List Ent} {T:List (Option Int)},HT T l→l.length=kC T
 |[],T,h=>by
  unfold kC
  rw [List.length_nil,eq_comm,List.countP_eq_zero];intro o ho;obtain ⟨k,hk,rfl⟩:=List.mem_iff_getElem.1 ho
  cases e:T[k] with
  |none=>simp
  |some x=>have:=h.inL k x (by rw [List.getElem?_eq_getElem hk,e]);simp at this
 |e::l,T,h=>by
  have hc:=h.cut.count
  have he:=h.inT e (List.mem_cons_self ..)
  have hlt:e.id<T.length:=(List.getElem?_eq_some_iff.1 he).1
  have hv:T[e.id]=some e.key:=by rw [List.getElem?_eq_getElem hlt] at he;exact Option.some.inj he
  rw [List.length_cons,hc]
  unfold kC
  rw [List.countP_set hlt];have:0<T.countP Option.isSome:=List.countP_pos_iff.2 ⟨_,List.getElem_mem hlt,by rw [hv];rfl⟩
  simp [hv];omega
def IsTop (T:List (Option Int)) (k:Nat) (x:Int):Prop:=T[k]? =some (some x)∧∀ j y,T[j]? =some (some y)→ele ⟨k,x⟩ ⟨j,y⟩
theorem IsTop.unique {T:List (Option Int)} {k j:Nat} {x y:Int} (h:IsTop T k x) (h' :IsTop T j y):k=j∧x=y:=by
 have a:=h.2 j y h'.1
 have b:=h'.2 k x h.1
 unfold ele elt at a b
 dsimp only at a b;omega
theorem HT.top {T:List (Option Int)} {l:List Ent} (h:HT T l) (hf:nW l l.length) (F:0<l.length):IsTop T (eg l 0).id (eg l 0).key:=by
 refine ⟨h.inT _ (by rw [i5 F];exact List.getElem_mem F),fun j y hj=>?_⟩;obtain ⟨i,hi,e⟩:=List.mem_iff_getElem.1 (h.inL j y hj)
 have:=full_root hf i hi
 rw [i5 hi,e] at this;exact this
theorem HT.len {T:List (Option Int)} {l:List Ent} (h:HT T l) {i:Nat} (hi:i<l.length):T[(eg l i).id]? =some (some (eg l i).key):=h.inT _ (by rw [i5 hi];exact List.getElem_mem hi)
theorem HT.at_none {T:List (Option Int)} {l:List Ent} {at_:List Int} (h:HT T l) (ho:HOk l at_) (hl:at_.length=T.length) {k:Nat} (hk:at_[k]? =some (-1)):T[k]? =some none:=by
 have hlt:k<T.length:=by rw [← hl];exact (List.getElem?_eq_some_iff.1 hk).1
 rw [List.getElem?_eq_getElem hlt]
 cases e:T[k] with
 |none=>rfl
 |some x=>
  obtain ⟨i,hi,e'⟩:=List.mem_iff_getElem.1 (h.inL k x (by rw [List.getElem?_eq_getElem hlt,e]))
  have:=ho.h1 i hi
  rw [i5 hi,e'] at this;dsimp only at this;rw [hk] at this;have:=Option.some.inj this;omega
end Go.Proofs.YthpkelafioikaaaGreat
namespace Go.Proofs.YthpkelafioikaaaGreat
open Go Fly
set_option linter.unusedVariables false
set_option linter.unusedSimpArgs false
def topPick (i:Nat) (o:Option Int) (t:Option (Nat×Int)):Option (Nat×Int):=match o,t with
 |none,t=>t
 |some x,none=>some (i,x)
 |some x,some (j,y)=>if y<x then some (j,y) else some (i,x)
def n2:List (Option Int)→Nat→Option (Nat×Int)
 |[],_=>none
 |o::r,i=>topPick i o (n2 r (i+1))
def topR (T:List (Option Int)):Option (Nat×Int):=n2 T 0
theorem jT:∀ {T:List (Option Int)} {i:Nat},n2 T i=none→kC T=0
 |[],_,_=>rfl
 |o::r,i,h=>by
  simp only [n2,topPick] at h
  split at h
  ·have:=jT h;simpa [kC] using this
  ·cases h
  ·split at h<;>cases h
theorem p6:∀ {T:List (Option Int)} {i k:Nat} {x:Int},n2 T i=some (k,x)→i≤k∧T[k - i]? =some (some x)∧∀ j y,T[j]? =some (some y)→ele ⟨k,x⟩ ⟨i+j,y⟩
 |[],_,_,_,h=>by simp [n2] at h
 |o::r,i,k,x,h=>by
  have step:∀ {k x},n2 r (i+1)=some (k,x)→i≤k∧(o::r)[k - i]? =some (some x)∧∀ j y,(o::r)[j+1]? =some (some y)→ele ⟨k,x⟩ ⟨i+(j+1),y⟩:=fun {k x} h=>by
   obtain ⟨a,b,c⟩:=p6 h
   refine ⟨aA,?_,fun j y hj=>?_⟩
   ·rw [show k - i=(k - (i+1))+1 from by omega];simpa using b
   ·have:=c j y (by simpa using hj)
    rw [show i+(j+1)=i+1+j from by omega];exact this
  simp only [n2,topPick] at h
  split at h
  ·obtain ⟨a,b,c⟩:=step h
   refine ⟨a,b,fun j y hj=>?_⟩
   cases j with
   |zero=>simp at hj
   |succ j=>exact c j y hj
  ·rename_i J hr
   cases h
   refine ⟨Nat.le_refl _,aN,fun j y hj=>?_⟩
   cases j with
   |zero=>simp at hj;subst hj;exact pU _
   |succ j=>
    have F:=jT hr
    unfold kC at F
    rw [List.countP_eq_zero] at F;have:=F _ (List.mem_of_getElem? (by simpa using hj:r[j]? =some (some y)))
    simp at this
  ·rename_i J O U hr
   obtain ⟨a,b,c⟩:=step hr
   have ha:=(p6 hr).1
   split at h
   ·rename_i hlt
    cases h
    refine ⟨a,b,fun j y hj=>?_⟩
    cases j with
    |zero=>simp at hj;subst hj;unfold ele elt;dsimp only;omega
    |succ j=>exact c j y hj
   ·rename_i hlt
    cases h
    refine ⟨Nat.le_refl _,aN,fun j y hj=>?_⟩
    cases j with
    |zero=>simp at hj;subst hj;exact pU _
    |succ j=>
     refine lJ ?_ (c j y hj)
     unfold ele elt;dsimp only;omega
theorem topR_some {T:List (Option Int)} {k:Nat} {x:Int} (h:topR T=some (k,x)):IsTop T k x:=by
 obtain ⟨_,b,c⟩:=p6 h
 exact ⟨by simpa using b,fun j y hj=>by have:=c j y hj;simpa using this⟩
theorem IsTop.topR {T:List (Option Int)} {k:Nat} {x:Int} (h:IsTop T k x):topR T=some (k,x):=by
 cases e:Go.Proofs.YthpkelafioikaaaGreat.topR T with
 |none=>
  have F:=jT e
  unfold kC at F
  rw [List.countP_eq_zero] at F;have:=F _ (List.mem_of_getElem? h.1)
  simp at this
 |some p=>
  obtain ⟨j,y⟩:=p
  obtain ⟨rfl,rfl⟩:=h.unique (topR_some e)
  rfl
theorem topR_none {T:List (Option Int)} (h:kC T=0):topR T=none:=by
 cases e:topR T with
 |none=>rfl
 |some p=>
  obtain ⟨j,y⟩:=p
  unfold kC at h
  rw [List.countP_eq_zero] at h;have:=h _ (List.mem_of_getElem? (topR_some e).1)
  simp at this
def topA (T:List (Option Int)):Int×Int×Int:=match topR T with
 |some (k,x)=>((k:Int),x,0)
 |none=>(0,0,5)
def popT (T:List (Option Int)):List (Option Int):=match topR T with
 |some (k,_)=>T.set k none
 |none=>T
def jP (T:List (Option Int)) (id key:Int):List (Option Int)×Bool×Int:=
 if 0≤id∧id<T.length then
  match T[id.toNat]? with
  |some (some k)=>if k≤key then (T,false,0) else (T.set id.toNat (some key),true,0)
  |_=>(T.set id.toNat (some key),true,0)
 else (T,false,5)
theorem popT_len (T:List (Option Int)):(popT T).length=T.length:=by unfold popT;split<;>simp
theorem lowerR_len (T:List (Option Int)) (id key:Int):(jP T id key).1.length=T.length:=by
 unfold jP;split
 ·split
  ·split<;>simp
  ·simp
 ·rfl
theorem tcount_le (T:List (Option Int)):kC T≤T.length:=List.countP_le_length
end Go.Proofs.YthpkelafioikaaaGreat
namespace Go.Proofs.YthpkelafioikaaaGreat
open Go Fly
set_option linter.unusedVariables false
set_option linter.unusedSimpArgs false
abbrev INF:Int:=18446744073709551615
def fH (l:List Int):List Value:=l.map (.int .u64 ·)
theorem iE (l:List Int):(fH l).length=l.length:=by simp [fH]
theorem mQ {l:List Int} {i:Nat} {x:Int} (h:l[i]? =some x):(fH l)[i]? =some (.int .u64 x):=by simp [fH,h]
theorem oY (l:List Int) (i:Nat) (x:Int):(fH l).set i (.int .u64 x)=fH (l.set i x):=by simp [fH,List.map_set]
def gS (a b:Int):Int:=if INF<a+b then INF else a+b
theorem dadd_le (a b:Int):gS a b≤a+b:=by unfold gS;split<;>omega
theorem dadd_inf (a b:Int):gS a b≤INF:=by unfold gS;split<;>omega
def dg (d:List Int) (v:Nat):Int:=d.getD v INF
theorem dg_eq {d:List Int} {v:Nat} (h:v<d.length):dg d v=d[v]:=by simp [dg,List.getD_eq_getElem?_getD,h]
theorem dg_at {d:List Int} {v:Nat} (h:v<d.length):d[v]? =some (dg d v):=by rw [dg_eq h];exact List.getElem?_eq_getElem h
theorem dg_set {d:List Int} {u:Nat} (h:u<d.length) (x:Int) (v:Nat):dg (d.set u x) v=if u=v then x else dg d v:=by
 unfold dg;rw [List.getD_eq_getElem?_getD,List.getD_eq_getElem?_getD,List.getElem?_set]
 split
 ·rename_i e;subst e;simp [h]
 ·rfl
inductive Wk (e:List Arc) (p:Nat→Bool) (s:Nat):Nat→Int→Prop
 |nil:Wk e p s s 0
 |step {n:Int} {i:Nat} (hi:i<e.length) (hp:p i=true) (h:Wk e p s e[i].src.toNat n):Wk e p s e[i].dst.toNat (n+e[i].wt)
theorem Wk.trans {e:List Arc} {p:Nat→Bool} {s u v:Nat} {n m:Int} (h:Wk e p s u n) (k:Wk e p u v m):Wk e p s v (n+m):=by
 induction k with
 |nil=>simpa using h
 |step hi hp _ ih=>have:=Wk.step hi hp ih;rwa [Int.add_assoc] at this
theorem Wk.one {e:List Arc} {p:Nat→Bool} {i:Nat} (hi:i<e.length) (hp:p i=true):Wk e p e[i].src.toNat e[i].dst.toNat e[i].wt:=by
 have:=Wk.step hi hp (Wk.nil (e:=e) (p:=p));rwa [Int.zero_add] at this
theorem Wk.nonneg {e:List Arc} {p:Nat→Bool} {s v:Nat} {n:Int} (hw:∀ x∈e,0≤x.wt) (h:Wk e p s v n):0≤n:=by
 induction h with
 |nil=>exact Int.le_refl _
 |step hi _ _ ih=>have:=hw _ (List.getElem_mem hi);omega
structure IsD (N:Nat) (e:List Arc) (p:Nat→Bool) (s:Nat) (d:List Int):Prop where
 len:d.length=N
 rng:∀ v,v<N→0≤dg d v∧dg d v≤INF
 zero:dg d s=0
 arcs:∀ i (h:i<e.length),p i=true→dg d e[i].dst.toNat≤dg d e[i].src.toNat+e[i].wt
 walk:∀ v,v<N→dg d v<INF→Wk e p s v (dg d v)
theorem IsD.le {N:Nat} {e:List Arc} {p:Nat→Bool} {s:Nat} {d:List Int} (h:IsD N e p s d) {v:Nat} {n:Int} (hw:Wk e p s v n):dg d v≤n:=by
 induction hw with
 |nil=>rw [h.zero];exact Int.le_refl _
 |step hi hp _ ih=>have:=h.arcs _ hi hp;omega
theorem IsD.unique {N:Nat} {e:List Arc} {p:Nat→Bool} {s:Nat} {d F:List Int} (h:IsD N e p s d) (h' :IsD N e p s F):d=F:=by
 have key:∀ {d F:List Int},IsD N e p s d→IsD N e p s F→∀ v,v<N→dg d v≤dg F v:=fun {d F} h h' v hv=>by
  by_cases hlt:dg F v<INF
  ·exact h.le (h'.walk v hv hlt)
  ·have:=(h.rng v hv).2;have:=(h'.rng v hv).2;omega
 refine List.ext_getElem (h.len.trans h'.len.symm) fun v h1 h2=>?_;have hv:v<N:=by rw [← h.len];exact h1
 rw [← dg_eq h1,← dg_eq h2];have a:=key h h' v hv
 have b:=key h' h v hv
 omega
structure SS (N:Nat) (e:List Arc) (p:Nat→Bool) (s:Nat) (d by_:List Int) (T:List (Option Int)) (o:List Nat) (R:Nat→Prop):Prop where
 ld:d.length=N
 lb:by_.length=N
 lt:T.length=N
 rng:∀ v,v<N→0≤dg d v∧dg d v≤INF
 zero:dg d s=0
 walk:∀ v,v<N→dg d v<INF→Wk e p s v (dg d v)
 key:∀ (v:Nat) (x:Int),T[v]? =some (some x)→dg d v=x∧x<INF
 nd:o.Nodup
 ord:∀ v,v∈o↔(v<N∧dg d v<INF∧T[v]? =some none)
 rel:∀ i (h:i<e.length),p i=true→R i→dg d e[i].dst.toNat≤dg d e[i].src.toNat+e[i].wt
 mono:∀ u,u∈o→∀ (v:Nat) (x:Int),T[v]? =some (some x)→dg d u≤x
 by1:∀ v,v<N→v∉o→v≠s→dg d v<INF→∃ (i:Nat) (h:i<e.length),by_[v]? =some (i:Int)∧p i=true∧e[i].dst.toNat=v∧e[i].src.toNat∈o∧dg d v=dg d e[i].src.toNat+e[i].wt
 by2:∀ (o1:List Nat) (v:Nat) (o2:List Nat),o=o1++v::o2→v≠s→∃ (i:Nat) (h:i<e.length),by_[v]? =some (i:Int)∧p i=true∧e[i].dst.toNat=v∧e[i].src.toNat∈o2∧dg d v=dg d e[i].src.toNat+e[i].wt
variable {N:Nat} {e:List Arc} {p:Nat→Bool} {s:Nat} {d by_:List Int} {T:List (Option Int)} {o:List Nat} {R:Nat→Prop}
theorem SS.begin (hs:s<N):SS N e p s ((List.replicate N INF).set s 0) (List.replicate N (-1)) ((List.replicate N none).set s (some 0)) [] (fun _=>False):=by
 have hl:s<(List.replicate N INF).length:=by simpa using hs
 have G:∀ v,v<N→dg ((List.replicate N INF).set s 0) v=if s=v then 0 else INF:=fun v hv=>by
  rw [dg_set hl];split
  ·rfl
  ·rw [dg_eq (by simpa using hv)];simp
 have U:(0:Int)<INF:=by decide
 refine ⟨aN,aN,aN,fun v hv=>?_,by rw [G s hs,if_pos rfl],fun v hv hlt=>?_,fun v x hx=>?_,List.nodup_nil,fun v=>?_,fun _ _ _ h=>h.elim,fun u F=>by simp at F,fun v hv _ hne hlt=>?_,fun J v O h=>by simp at h⟩
 ·rw [G v hv];split<;>omega
 ·rw [G v hv] at hlt ⊢
  split at hlt
  ·rename_i h;subst h;rw [if_pos rfl];exact .nil
  ·omega
 ·rw [List.getElem?_set] at hx
  split at hx
  ·rename_i h;subst h
   split at hx
   ·rw [G s hs,if_pos rfl]
    have:=Option.some.inj (Option.some.inj hx)
    exact ⟨this,aA⟩
   ·cases hx
  ·rw [List.getElem?_replicate] at hx;split at hx<;>cases hx
 ·constructor
  ·intro h;simp at h
  ·rintro ⟨hv,hlt,hx⟩
   rw [G v hv] at hlt
   split at hlt
   ·rename_i h;subst h;rw [List.getElem?_set_self (by simpa using hs)] at hx;simp at hx
   ·omega
 ·rw [G v hv,if_neg (fun h=>hne h.symm)] at hlt;omega
theorem SS.pop (h:SS N e p s d by_ T o R) {v:Nat} {a:Int} (ht:topR T=some (v,a)):
  SS N e p s d by_ (T.set v none) (v::o) R∧v<N∧v∉o∧dg d v=a∧a<INF∧(∀ u,u∈v::o→dg d u≤a)∧(∀ (u:Nat) (x:Int),(T.set v none)[u]? =some (some x)→a≤x)∧∀ (u:Nat) (x:Int),T[u]? =some (some x)→a≤x:=by
 obtain ⟨hv,Y⟩:=topR_some ht
 obtain ⟨hd,ha⟩:=h.key v a hv
 have J:v<N:=by rw [← h.lt];exact (List.getElem?_eq_some_iff.1 hv).1
 have O:v∉o:=fun hm=>by have:=((h.ord v).1 hm).2.2;rw [hv] at this;simp at this
 have U:∀ (u:Nat) (x:Int),T[u]? =some (some x)→a≤x:=fun u x F=>by
  have:=Y u x F;unfold ele elt at this;dsimp only at this;omega
 have Z:∀ (u:Nat) (x:Int),(T.set v none)[u]? =some (some x)→u≠v∧T[u]? =some (some x):=fun u x F=>by
  rw [List.getElem?_set] at F
  split at F
  ·split at F<;>simp at F
  ·rename_i hne;exact ⟨fun e=>hne e.symm,F⟩
 have X:∀ u,u∈v::o→dg d u≤a:=fun u F=>by
  rcases List.mem_cons.1 F with rfl|F
  ·omega
  ·exact h.mono u F v a hv
 refine ⟨⟨h.ld,h.lb,by simpa using h.lt,h.rng,h.zero,h.walk,fun u x F=>h.key u x (Z u x F).2,List.nodup_cons.2 ⟨O,h.nd⟩,fun u=>?_,h.rel,fun u F w x hx=>?_,fun u F ac hne hlt=>?_,fun o1 u o2 ho hne=>?_⟩,J,O,hd,ha,X,fun u x F=>U u x (Z u x F).2,U⟩
 ·rw [List.mem_cons,List.getElem?_set]
  by_cases e1:v=u
  ·subst e1
   constructor
   ·intro _;exact ⟨J,aA,by rw [if_pos rfl,if_pos (by rw [h.lt];exact J)]⟩
   ·intro _;exact .inl rfl
  ·rw [if_neg e1]
   constructor
   ·rintro (h' |h')
    ·exact absurd h'.symm e1
    ·exact (h.ord u).1 h'
   ·intro h';exact .inr ((h.ord u).2 h')
 ·exact Int.le_trans (X u F) (U w x (Z w x hx).2)
 ·have aa:u∉o:=fun h' =>ac (List.mem_cons_of_mem _ h')
  obtain ⟨i,hi,h1,h2,h3,h4,h5⟩:=h.by1 u F aa hne hlt
  exact ⟨i,hi,h1,h2,h3,List.mem_cons_of_mem _ h4,h5⟩
 ·cases o1 with
  |nil=>
   obtain ⟨rfl,rfl⟩:=List.cons.inj ho
   exact h.by1 v J O hne aA
  |cons w o1=>
   obtain ⟨rfl,ab⟩:=List.cons.inj ho
   exact h.by2 o1 u o2 ab hne
theorem SS.skip (h:SS N e p s d by_ T o R) {i:Nat} (hi:i<e.length) (hn:p i=true→dg d e[i].dst.toNat≤dg d e[i].src.toNat+e[i].wt):SS N e p s d by_ T o (fun j=>R j∨j=i):=
 { h with
  rel:=fun j hj hp hr=>by
   rcases hr with hr|rfl
   ·exact h.rel j hj hp hr
   ·exact hn hp }
theorem SS.weaken (h:SS N e p s d by_ T o R) {F:Nat→Prop} (J:∀ j,F j→R j):SS N e p s d by_ T o F:={ h with rel:=fun j hj hp hr=>h.rel j hj hp (J j hr) }
theorem SS.relax (h:SS N e p s d by_ T o R) (aj:∀ x∈e,0≤x.wt) (ab:∀ i (h:i<e.length),e[i].dst.toNat<N) {i:Nat} (hi:i<e.length) (hp:p i=true) {a n:Int} (O:e[i].src.toNat∈o) (ha:dg d e[i].src.toNat=a) (aa:∀ u,u∈o→dg d u≤a)
  (ao:∀ j (h:j<e.length),R j→e[j].src.toNat∈o) (ad:∀ (u:Nat) (x:Int),T[u]? =some (some x)→a≤x) (hn:n=a+e[i].wt) (hlt:n<dg d e[i].dst.toNat):
  SS N e p s (d.set e[i].dst.toNat n) (by_.set e[i].dst.toNat (i:Int)) (T.set e[i].dst.toNat (some n)) o (fun j=>R j∨j=i)∧(∀ (u:Nat) (x:Int),(T.set e[i].dst.toNat (some n))[u]? =some (some x)→a≤x)∧e[i].dst.toNat∉o∧(jP T (e[i].dst.toNat:Int) n).1=T.set e[i].dst.toNat (some n):=by
 have hu:=ab i hi
 generalize hud:e[i].dst.toNat=u at*
 have hw:=aj _ (List.getElem_mem hi)
 have ae:u<d.length:=by rw [h.ld];exact hu
 have ac:u<T.length:=by rw [h.lt];exact hu
 have ah:u<by_.length:=by rw [h.lb];exact hu
 have Z:u∉o:=fun hm=>by have:=aa u hm;omega
 have G:=dg_set ae n
 have F:∀ w,w∈o→u≠w:=fun w X e' =>Z (e'▸X)
 have ap:=h.rng u hu
 have aq:0≤a:=by
  have al:=((h.ord _).1 O).1
  have:=(h.rng _ al).1;omega
 have hT:∀ (w:Nat) (x:Int),(T.set u (some n))[w]? =some (some x)→(w=u∧x=n)∨(w≠u∧T[w]? =some (some x)):=fun w x hx=>by
  rw [List.getElem?_set] at hx
  split at hx
  ·rename_i e';exact .inl ⟨e'.symm,(Option.some.inj (Option.some.inj hx)).symm⟩
  ·rename_i e';exact .inr ⟨fun an=>e' an.symm,hx⟩
 refine ⟨⟨by simpa using h.ld,by simpa using h.lb,by simpa using h.lt,fun v hv=>?_,?_,fun v hv J=>?_,fun v x hx=>?_,h.nd,fun v=>?_,fun j hj ai hr=>?_,fun w X v x hx=>?_,fun v hv Y hne J=>?_,fun o1 v o2 ho hne=>?_⟩,fun w x hx=>?_,Z,?_⟩
 ·rw [G v];split
  ·omega
  ·exact h.rng v hv
 ·rw [G s,if_neg (fun e' =>by rw [e'] at hlt;rw [h.zero] at hlt;omega)];exact h.zero
 ·rw [G v] at J ⊢
  split
  ·rename_i e';subst e'
   have ak:=h.walk _ ((h.ord _).1 O).1 ((h.ord _).1 O).2.1
   have:=Wk.step hi hp ak
   rw [hud,ha,← hn] at this;exact this
  ·rename_i e';rw [if_neg e'] at J;exact h.walk v hv J
 ·rcases hT v x hx with ⟨rfl,rfl⟩|⟨hne,U⟩
  ·exact ⟨by rw [G v,if_pos rfl],aA⟩
  ·rw [G v,if_neg (fun e' =>hne e'.symm)];exact h.key v x U
 ·rw [G v,List.getElem?_set]
  by_cases e' :u=v
  ·subst e'
   constructor
   ·intro hm;exact absurd hm Z
   ·rintro ⟨_,_,hx⟩;rw [if_pos rfl,if_pos ac] at hx;simp at hx
  ·rw [if_neg e',if_neg e'];exact h.ord v
 ·rcases hr with hr|rfl
  ·have am:=ao j hj hr
   rw [G e[j].dst.toNat,G e[j].src.toNat,if_neg (F _ am)];have:=h.rel j hj ai hr
   split
   ·rename_i e';rw [← e'] at this;omega
   ·exact this
  ·rw [G e[j].dst.toNat,G e[j].src.toNat,if_neg (F _ O),if_pos hud.symm,ha,hn];exact Int.le_refl _
 ·rw [G w,if_neg (F w X)]
  rcases hT v x hx with ⟨rfl,rfl⟩|⟨hne,U⟩
  ·have:=aa w X;omega
  ·exact h.mono w X v x U
 ·rw [G v] at J ⊢
  by_cases e' :u=v
  ·subst e'
   rw [if_pos rfl] at J ⊢;refine ⟨i,hi,by rw [List.getElem?_set_self ah],hp,hud,O,?_⟩;rw [G e[i].src.toNat,if_neg (F _ O),ha,hn]
  ·rw [if_neg e'] at J ⊢
   obtain ⟨j,hj,h1,h2,h3,h4,h5⟩:=h.by1 v hv Y hne J
   exact ⟨j,hj,by rw [List.getElem?_set_ne e'];exact h1,h2,h3,h4,by rw [G e[j].src.toNat,if_neg (F _ h4)];exact h5⟩
 ·obtain ⟨j,hj,h1,h2,h3,h4,h5⟩:=h.by2 o1 v o2 ho hne
  have Y:v∈o:=by rw [ho];simp
  have ag:e[j].src.toNat∈o:=by rw [ho];simp [h4]
  exact ⟨j,hj,by rw [List.getElem?_set_ne (F v Y)];exact h1,h2,h3,h4,by rw [G v,if_neg (F v Y),G e[j].src.toNat,if_neg (F _ ag)];exact h5⟩
 ·rcases hT w x hx with ⟨rfl,rfl⟩|⟨hne,U⟩
  ·omega
  ·exact ad w x U
 ·cases hTu:T[u]? with
  |none=>rw [List.getElem?_eq_getElem ac] at hTu;cases hTu
  |some ov=>
   cases ov with
   |none=>unfold jP;rw [if_pos aA,Int.toNat_natCast,hTu]
   |some x=>
    have:=(h.key u x hTu).1
    unfold jP;rw [if_pos aA,Int.toNat_natCast,hTu]
    simp only;rw [if_neg aA]
theorem SS.done (h:SS N e p s d by_ T o (fun i=>∃ h:i<e.length,e[i].src.toNat∈o)) (Z:topR T=none) (O:∀ i (h:i<e.length),e[i].src.toNat<N) (F:∀ i (h:i<e.length),e[i].dst.toNat<N) (X:∀ x∈e,0≤x.wt):IsD N e p s d:=by
 have Y:=jT Z
 unfold kC at Y
 rw [List.countP_eq_zero] at Y;refine ⟨h.ld,h.rng,h.zero,fun i hi hp=>?_,h.walk⟩;have U:=O i hi
 by_cases hlt:dg d e[i].src.toNat<INF
 ·refine h.rel i hi hp ⟨hi,(h.ord _).2 ⟨U,hlt,?_⟩⟩
  have J:e[i].src.toNat<T.length:=by rw [h.lt];exact U
  rw [List.getElem?_eq_getElem J];have:=Y _ (List.getElem_mem J)
  cases hx:T[e[i].src.toNat] with
  |none=>rfl
  |some x=>rw [hx] at this;simp at this
 ·have:=(h.rng _ (F i hi)).2
  have:=X _ (List.getElem_mem hi)
  omega
theorem SS.near (h:SS N e p s d by_ T o (fun i=>∃ h:i<e.length,e[i].src.toNat∈o)) (O:∀ i (h:i<e.length),e[i].dst.toNat<N) (Y:∀ x∈e,0≤x.wt) (hs:s<N) {a:Int} (X:∀ (u:Nat) (x:Int),T[u]? =some (some x)→a≤x) (ha:a≤INF) {v:Nat} {n:Int} (hw:Wk e p s v n) (hn:n<a):
  v∈o∧dg d v≤n:=by
 have F:∀ {u:Nat} {m:Int},u<N→dg d u≤m→m<a→u∈o:=fun {u m} Z hd hm=>by
  refine (h.ord u).2 ⟨Z,aA,?_⟩;have U:u<T.length:=by rw [h.lt];exact Z
  rw [List.getElem?_eq_getElem U]
  cases hx:T[u] with
  |none=>rfl
  |some x=>
   have J:T[u]? =some (some x):=by rw [List.getElem?_eq_getElem U,hx]
   have:=X u x J
   have:=(h.key u x J).1
   omega
 induction hw with
 |nil=>exact ⟨F hs (by rw [h.zero];exact Int.le_refl _) hn,by rw [h.zero];exact Int.le_refl _⟩
 |step hi hp hk ih=>
  have h0:=Y _ (List.getElem_mem hi)
  obtain ⟨h1,h2⟩:=ih aA
  have:=h.rel _ hi hp ⟨hi,h1⟩
  exact ⟨F (O _ hi) aA hn,aA⟩
def trn (b:Bool) (x:Arc):Arc:=if b then ⟨x.dst,x.src,x.wt⟩ else x
def fB (e:List Arc) (v:Nat):List Int:=gF (fun x=>decide (x.src.toNat=v)) e
def kD (n:Nat) (e:List Arc):List (List Int):=(List.range n).map (fB e)
theorem nE (n:Nat) (e:List Arc):(kD n e).length=n:=by simp [kD]
theorem lC {n:Nat} {e:List Arc} {v:Nat} (h:v<(kD n e).length):(kD n e)[v]=fB e v:=by simp [kD]
theorem rowsOf_nil (n:Nat):kD n []=List.replicate n []:=List.ext_getElem (by simp [kD]) fun v h1 h2=>by rw [lC];simp [fB,gF]
theorem rowsOf_next {n k v:Nat} {e:List Arc} (hk:k<e.length) (hv:e[k].src.toNat=v):(kD n (e.take k)).set v (fB (e.take k) v++[(k:Int)])=kD n (e.take (k+1)):=by
 refine List.ext_getElem (by simp [kD]) fun w h1 h2=>?_;rw [List.getElem_set,lC,lC]
 split
 ·rename_i e';subst e';unfold fB;rw [nQ hk (by simp [hv])]
 ·rename_i e';unfold fB;rw [lP hk (by simp [hv,e'])]
theorem rowOf_len (e:List Arc) (v k:Nat):(fB (e.take k) v).length≤k:=by
 unfold fB;rw [l7];exact Nat.le_trans List.countP_le_length (List.length_take_le _ _)
theorem rowOf_at {e:List Arc} {v j:Nat} (h:j<(fB e v).length):∃ (i:Nat) (hi:i<e.length),(fB e v)[j]=(i:Int)∧e[i].src.toNat=v:=by
 obtain ⟨i,hi,e1,e2⟩:=idxs_mem (List.getElem_mem h)
 exact ⟨i,hi,e1,by simpa using e2⟩
theorem rowOf_mem {e:List Arc} {i:Nat} (hi:i<e.length):(i:Int)∈fB e e[i].src.toNat:=by
 unfold fB gF
 rw [List.mem_map];refine ⟨(e[i],i),List.mem_filter.2 ⟨List.mem_zipIdx_iff_getElem?.2 (by simp [hi]),aN⟩,rfl⟩
def free (n:Nat) (o:List Nat):Nat:=(List.range n).countP (fun u=>decide (u∉o))
theorem count_more (v:Nat) (o:List Nat):∀ L:List Nat,L.countP (fun u=>decide (u∉v::o))≤L.countP (fun u=>decide (u∉o)):=fun L=>
 List.countP_mono_left fun u _ h=>by simp at h ⊢;exact h.2
theorem pS {n v:Nat} {o:List Nat} (hv:v<n) (ho:v∉o):free n (v::o)<free n o:=by
 have key:∀ L:List Nat,v∈L→L.countP (fun u=>decide (u∉v::o))<L.countP (fun u=>decide (u∉o)):=by
  intro L
  induction L with
  |nil=>intro h;simp at h
  |cons x L ih=>
   intro h;have hm:=count_more v o L
   rw [List.countP_cons,List.countP_cons]
   rcases List.mem_cons.1 h with rfl|h
   ·rw [if_neg aN,if_pos (by simpa using ho)];omega
   ·have:=ih h
    by_cases hx:x∈v::o
    ·rw [if_neg (by simp only [decide_eq_true_eq];exact fun h=>h hx)];split<;>omega
    ·rw [if_pos (by simpa using hx),if_pos (by simp at hx ⊢;exact hx.2)];omega
 exact key _ (by simpa using hv)
end Go.Proofs.YthpkelafioikaaaGreat
namespace Go.Proofs.YthpkelafioikaaaGreat
open Go Fly
set_option linter.unusedVariables false
set_option linter.unusedSimpArgs false
def RF (e:List Arc) (o:List Nat):Nat→Prop:=fun i=>∃ h:i<e.length,e[i].src.toNat∈o
structure NX (n:Nat) (e:List Arc) (p:Nat→Bool) (s:Nat) (d0:List Int) (v:Nat) (a:Int) (o:List Nat) (j:Nat) (d by_:List Int) (T:List (Option Int)):Prop where
 ss:SS n e p s d by_ T (v::o) (fun i=>RF e o i∨(i:Int)∈(fB e v).take j)
 ta:∀ (u:Nat) (x:Int),T[u]? =some (some x)→a≤x
 oa:∀ u,u∈v::o→dg d u≤a
 dv:dg d v=a
 le:∀ u,dg d u≤dg d0 u
 ch:∀ u,dg d u=dg d0 u∨∃ (i:Nat) (h:i<e.length),e[i].src.toNat=v∧e[i].dst.toNat=u
variable {n:Nat} {e:List Arc} {p:Nat→Bool} {s:Nat} {d0 d by_:List Int} {T:List (Option Int)} {o:List Nat} {v j:Nat} {a:Int}
theorem NX.start (h:SS n e p s d0 by_ T o (RF e o)) (J:topR T=some (v,a)):NX n e p s d0 v a o 0 d0 by_ (T.set v none)∧v<n∧v∉o∧dg d0 v=a∧a<INF∧0≤a:=by
 obtain ⟨h1,hv,F,hd,ha,hoa,hta,_⟩:=h.pop J
 have:=(h.rng v hv).1
 exact ⟨⟨h1.weaken fun i hi=>by rcases hi with hi|hi;exact hi;simp at hi,hta,hoa,hd,fun u=>Int.le_refl _,fun u=> .inl rfl⟩,hv,F,hd,ha,aA⟩
theorem row_mem {i:Nat} (h:(i:Int)∈fB e v):∃ hi:i<e.length,e[i].src.toNat=v:=by
 obtain ⟨k,hk,e1,e2⟩:=idxs_mem h
 have:i=k:=aA
 subst this;exact ⟨hk,by simpa using e2⟩
theorem take_next {i k:Nat} (hj:j<(fB e v).length) (hr:(fB e v)[j]=(i:Int)) (h:(k:Int)∈(fB e v).take (j+1)):(k:Int)∈(fB e v).take j∨k=i:=by
 rw [List.take_succ_eq_append_getElem hj,List.mem_append,List.mem_singleton,hr] at h
 rcases h with h|h
 ·exact .inl h
 ·exact .inr aA
theorem NX.skip (h:NX n e p s d0 v a o j d by_ T) (hj:j<(fB e v).length) {i:Nat} (hi:i<e.length) (hr:(fB e v)[j]=(i:Int)) (F:e[i].src.toNat=v) (hn:p i=true→dg d e[i].dst.toNat≤a+e[i].wt):NX n e p s d0 v a o (j+1) d by_ T:=
 { h with
  ss:=(h.ss.skip hi (fun hp=>by rw [F,h.dv];exact hn hp)).weaken fun k hk=>by
   rcases hk with hk|hk
   ·exact .inl (.inl hk)
   ·rcases take_next hj hr hk with hk|hk
    ·exact .inl (.inr hk)
    ·exact .inr hk }
theorem NX.relax (h:NX n e p s d0 v a o j d by_ T) (X:∀ x∈e,0≤x.wt) (J:∀ i (h:i<e.length),e[i].dst.toNat<n) (hj:j<(fB e v).length) {i u:Nat} (hi:i<e.length) (hr:(fB e v)[j]=(i:Int)) (F:e[i].src.toNat=v) (hp:p i=true) (Z:e[i].dst.toNat=u) {m:Int} (hm:m=a+e[i].wt) (hlt:m<dg d u):
  NX n e p s d0 v a o (j+1) (d.set u m) (by_.set u (i:Int)) (T.set u (some m))∧(jP T (u:Int) m).1=T.set u (some m):=by
 subst Z
 obtain ⟨h1,h2,h3,Y⟩:=h.ss.relax X J hi hp (by rw [F];simp) (by rw [F];exact h.dv) h.oa (fun k hk O=>by
  rcases O with ⟨_,O⟩|O
  ·exact List.mem_cons_of_mem _ O
  ·obtain ⟨_,e1⟩:=row_mem (List.mem_of_mem_take O)
   rw [e1];simp) h.ta hm hlt
 have U:e[i].dst.toNat<d.length:=by rw [h.ss.ld];exact J i hi
 have G:=dg_set U m
 refine ⟨⟨h1.weaken fun k hk=>?_,h2,fun w hw=>?_,?_,fun w=>?_,fun w=>?_⟩,Y⟩
 ·rcases hk with hk|hk
  ·exact .inl (.inl hk)
  ·rcases take_next hj hr hk with hk|hk
   ·exact .inl (.inr hk)
   ·exact .inr hk
 ·rw [G w,if_neg (by rintro rfl;exact h3 hw)];exact h.oa w hw
 ·rw [G v,if_neg (fun e' =>h3 (by rw [e'];simp))];exact h.dv
 ·rw [G w];split
  ·rename_i e';subst e';have:=h.le e[i].dst.toNat;omega
  ·exact h.le w
 ·rw [G w];split
  ·rename_i e';subst e';exact .inr ⟨i,hi,F,rfl⟩
  ·exact h.ch w
theorem NX.done (h:NX n e p s d0 v a o j d by_ T) (hj:(fB e v).length≤j):SS n e p s d by_ T (v::o) (RF e (v::o)):=by
 have e1:(fB e v).take j=fB e v:=List.take_of_length_le hj
 have h1:=h.ss
 rw [e1] at h1;refine h1.weaken fun i ⟨hi,hm⟩=>?_
 rcases List.mem_cons.1 hm with hm|hm
 ·exact .inr (by rw [← hm];exact rowOf_mem hi)
 ·exact .inl ⟨hi,hm⟩
theorem dadd_lt {a b c:Int} (h:gS a b<c) (hc:c≤INF):gS a b=a+b:=by
 unfold gS at h ⊢
 split
 ·rename_i h';rw [if_pos h'] at h;omega
 ·rfl
end Go.Proofs.YthpkelafioikaaaGreat
namespace Go.Proofs.YthpkelafioikaaaGreat
open Go Fly
set_option linter.unusedVariables false
set_option linter.unusedSimpArgs false
structure IsB (e:List Arc) (p:Nat→Bool) (s t:Nat) (x:Int):Prop where
 le:x≤INF
 walk:x<INF→Wk e p s t x
 min:∀ m,Wk e p s t m→x≤m
theorem IsB.unique {e:List Arc} {p:Nat→Bool} {s t:Nat} {x y:Int} (h:IsB e p s t x) (k:IsB e p s t y):x=y:=by
 have key:∀ {x y:Int},IsB e p s t x→IsB e p s t y→x≤y:=fun {x y} h k=>by
  by_cases hy:y<INF
  ·exact h.min _ (k.walk hy)
  ·have:=h.le;have:=k.le;omega
 have a:=key h k
 have b:=key k h
 omega
theorem IsD.isB {n:Nat} {e:List Arc} {p:Nat→Bool} {s t:Nat} {d:List Int} (h:IsD n e p s d) (F:t<n):IsB e p s t (dg d t):=
 ⟨(h.rng t F).2,h.walk t F,fun m hm=>h.le hm⟩
theorem Wk.mono {e:List Arc} {p q:Nat→Bool} {s v:Nat} {m:Int} (F:∀ i,p i=true→q i=true) (h:Wk e p s v m):Wk e q s v m:=by
 induction h with
 |nil=>exact .nil
 |step hi hp _ ih=>exact .step hi (F _ hp) ih
theorem Wk.rev {e r:List Arc} {p:Nat→Bool} (hl:e.length=r.length) (hr:∀ i (h:i<e.length) (h' :i<r.length),r[i].src=e[i].dst∧r[i].dst=e[i].src∧r[i].wt=e[i].wt) {s v:Nat} {m:Int} (h:Wk e p s v m):Wk r p v s m:=by
 induction h with
 |nil=>exact .nil
 | @step n i hi hp _ ih=>
  have hi' :i<r.length:=aA
  obtain ⟨a,b,c⟩:=hr i hi hi'
  have h1:=Wk.one (p:=p) hi' hp
  rw [a,b,c] at h1;have:=h1.trans ih
  rwa [Int.add_comm] at this
theorem trn_rev (back:Bool) (l:List Arc):∀ i (h:i<(l.map (trn back)).length) (h' :i<(l.map (trn (!back))).length),(l.map (trn (!back)))[i].src=(l.map (trn back))[i].dst∧(l.map (trn (!back)))[i].dst=(l.map (trn back))[i].src∧(l.map (trn (!back)))[i].wt=(l.map (trn back))[i].wt:=fun i h h' =>by
 rw [List.getElem_map,List.getElem_map];cases back<;>exact ⟨rfl,rfl,rfl⟩
theorem Wk.turn {back:Bool} {l:List Arc} {p:Nat→Bool} {s v:Nat} {m:Int} (h:Wk (l.map (trn back)) p s v m):Wk (l.map (trn (!back))) p v s m:=
 h.rev aN (trn_rev back l)
structure Both (n:Nat) (l:List Arc) (p:Nat→Bool) (back:Bool) (s t:Nat) (dx bx:List Int) (Tx:List (Option Int)) (ox:List Nat) (dy by_:List Int) (Ty:List (Option Int)) (oy:List Nat) (best:Int):Prop where
 x:SS n (l.map (trn back)) p s dx bx Tx ox (RF (l.map (trn back)) ox)
 y:SS n (l.map (trn (!back))) p t dy by_ Ty oy (RF (l.map (trn (!back))) oy)
 b0:0≤best∧best≤INF
 up:best<INF→Wk (l.map (trn back)) p s t best
 low:∀ u,u<n→best≤dg dx u+dg dy u
variable {n:Nat} {l:List Arc} {p:Nat→Bool} {back:Bool} {s t:Nat} {dx bx:List Int} {Tx:List (Option Int)} {ox:List Nat} {dy by_:List Int} {Ty:List (Option Int)} {oy:List Nat} {best:Int}
theorem Both.swap (h:Both n l p back s t dx bx Tx ox dy by_ Ty oy best):Both n l p (!back) t s dy by_ Ty oy dx bx Tx ox best:=
 ⟨h.y,by rw [Bool.not_not];exact h.x,h.b0,fun hb=>(h.up hb).turn,fun u F=>by have:=h.low u F;omega⟩
theorem Both.start (hs:s<n) (ht:t<n) {J U F Y:List Int} {O X:List (Option Int)} (hx:SS n (l.map (trn back)) p s J U O [] (RF (l.map (trn back)) [])) (hy:SS n (l.map (trn (!back))) p t F Y X [] (RF (l.map (trn (!back))) []))
  (ex:∀ u,u<n→dg J u=if s=u then 0 else INF) (Z:∀ u,u<n→dg F u=if t=u then 0 else INF):Both n l p back s t J U O [] F Y X [] (gS (dg J t) (dg F s)):=by
 have hI:(0:Int)<INF:=by decide
 refine ⟨hx,hy,?_,fun hb=>?_,fun u hu=>?_⟩
 ·rw [ex t ht,Z s hs];unfold gS;split<;>split<;>split<;>omega
 ·rw [ex t ht,Z s hs] at hb ⊢
  by_cases e:s=t
  ·subst e;rw [if_pos rfl] at hb ⊢;exact .nil
  ·rw [if_neg e,if_neg (fun h=>e h.symm)] at hb;unfold gS at hb;rw [if_pos (by decide)] at hb;omega
 ·rw [ex t ht,Z s hs,ex u hu,Z u hu];unfold gS
  split<;>split<;>split<;>split<;>split<;>omega
theorem Both.step (h:Both n l p back s t dx bx Tx ox dy by_ Ty oy best) {dx' U:List Int} {O:List (Option Int)} {v:Nat} {F:Int} (hv:v<n)
  (hx:SS n (l.map (trn back)) p s dx' U O (v::ox) (RF (l.map (trn back)) (v::ox))) (Z:∀ u,dg dx' u≤dg dx u)
  (X:∀ u,dg dx' u=dg dx u∨∃ (i:Nat) (h:i<(l.map (trn back)).length),(l.map (trn back))[i].src.toNat=v∧(l.map (trn back))[i].dst.toNat=u)
  (h1:F≤best) (h2:∀ (i:Nat) (h:i<(l.map (trn back)).length),(l.map (trn back))[i].src.toNat=v→F≤dg dx' (l.map (trn back))[i].dst.toNat+dg dy (l.map (trn back))[i].dst.toNat)
  (h3:F=best∨∃ u,u<n∧F=gS (dg dx' u) (dg dy u)):Both n l p back s t dx' U O (v::ox) dy by_ Ty oy F:=by
 have hb:=h.b0
 refine ⟨hx,h.y,?_,fun hlt=>?_,fun u J=>?_⟩
 ·rcases h3 with rfl|⟨u,J,rfl⟩
  ·exact hb
  ·have:=hx.rng u J;have:=h.y.rng u J
   unfold gS;split<;>omega
 ·rcases h3 with rfl|⟨u,J,rfl⟩
  ·exact h.up hlt
  ·have a:=hx.rng u J
   have b:=h.y.rng u J
   have e:gS (dg dx' u) (dg dy u)=dg dx' u+dg dy u:=dadd_lt hlt (Int.le_refl _)
   rw [e] at hlt ⊢;have Y:=(h.y.walk u J aA).turn
   rw [Bool.not_not] at Y;exact (hx.walk u J aA).trans Y
 ·rcases X u with e|⟨i,hi,e1,rfl⟩
  ·rw [e];have:=h.low u J;omega
  ·exact h2 i hi e1
theorem Both.stop (h:Both n l p back s t dx bx Tx ox dy by_ Ty oy best) (F:∀ (b:Bool) i (h:i<(l.map (trn b)).length),(l.map (trn b))[i].dst.toNat<n) (J:∀ (b:Bool),∀ x∈l.map (trn b),0≤x.wt) (hs:s<n) (Z:t<n) {a b:Int} (ha:a≤INF) (hb:b≤INF)
  (U:∀ (u:Nat) (x:Int),Tx[u]? =some (some x)→a≤x) (O:∀ (u:Nat) (x:Int),Ty[u]? =some (some x)→b≤x) (ae:best≤gS a b):IsB (l.map (trn back)) p s t best:=by
 have ad:=dadd_le a b
 have key:∀ {v:Nat} {m:Int},Wk (l.map (trn back)) p s v m→∀ q,Wk (l.map (trn (!back))) p t v q→m+q<best→m<a:=by
  intro v m hm
  induction hm with
  |nil=>
   intro q hq hlt
   rcases Int.lt_or_le 0 a with h' |h'
   ·exact h'
   ·have:=(h.y.near (F _) (J _) Z O hb hq aA).2
    have:=h.low s hs
    have:=h.x.zero
    omega
  | @step m' i hi hp hw ih=>
   intro q hq hlt;have hi' :i<(l.map (trn (!back))).length:=by simpa using hi
   obtain ⟨r1,r2,r3⟩:=trn_rev back l i hi hi'
   have Y:Wk (l.map (trn (!back))) p t (l.map (trn back))[i].src.toNat (q+(l.map (trn back))[i].wt):=by
    have h1:=Wk.one (p:=p) hi' hp
    rw [r1,r2,r3] at h1;exact hq.trans h1
   have X:=ih _ Y aA
   obtain ⟨ab,hud⟩:=h.x.near (F _) (J _) hs U ha hw X
   have ac:=h.x.rel i hi hp ⟨hi,ab⟩
   rcases Int.lt_or_le (m' +(l.map (trn back))[i].wt) a with h' |h'
   ·exact h'
   ·have:=(h.y.near (F _) (J _) Z O hb hq aA).2
    have:=h.low _ (F back i hi)
    omega
 refine ⟨h.b0.2,h.up,fun m hm=>?_⟩
 rcases Int.lt_or_le m best with hlt|aa
 ·have h1:=key hm 0 .nil aA
  have h2:=(h.x.near (F _) (J _) hs U ha hm h1).2
  have:=h.low t Z
  have:=h.y.zero
  omega
 ·exact aa
theorem Both.over (h:Both n l p back s t dx bx Tx ox dy by_ Ty oy best) (F:t<n) (hd:IsD n (l.map (trn back)) p s dx):IsB (l.map (trn back)) p s t best:=
 ⟨h.b0.2,h.up,fun m hm=>by have:=hd.le hm;have:=h.low t F;have:=h.y.zero;omega⟩
theorem IsB.turn {x:Int} (h:IsB (l.map (trn back)) p s t x):IsB (l.map (trn (!back))) p t s x:=
 ⟨h.le,fun hx=>(h.walk hx).turn,fun m hm=>h.min m (by have:=hm.turn;rwa [Bool.not_not] at this)⟩
end Go.Proofs.YthpkelafioikaaaGreat
namespace Go.Proofs.YthpkelafioikaaaGreat
open Go Go.RowKit Fly
set_option maxRecDepth 100000
set_option maxHeartbeats 4000000
set_option linter.all false
theorem ov_sound {e E:List Arc} {p q:Nat→Bool} (hs:∀ i (h:i<E.length),Wk e p E[i].src.toNat E[i].dst.toNat E[i].wt) {s v:Nat} {m:Int} (h:Wk E q s v m):Wk e p s v m:=by
 induction h with
 |nil=>exact .nil
 |step hi hp _ ih=>exact ih.trans (hs _ hi)
structure Ov (e E:List Arc) (p sm:Nat→Bool) (gate:Nat→Prop):Prop where
 sound:∀ i (h:i<E.length),Wk e p E[i].src.toNat E[i].dst.toNat E[i].wt
 arc:∀ i (h:i<e.length),p i=true→sm i=false→gate e[i].src.toNat∧gate e[i].dst.toNat∧∃ j,∃ hj:j<E.length,E[j].src.toNat=e[i].src.toNat∧E[j].dst.toNat=e[i].dst.toNat∧E[j].wt≤e[i].wt
 part:∀ x y m,gate x→gate y→m<INF→Wk e (fun i=>p i&&sm i) x y m→∃ m',m'≤m∧Wk E (fun _=>true) x y m'
theorem Ov.split {e E:List Arc} {p J:Nat→Bool} {F:Nat→Prop} (h:Ov e E p J F) (hw:∀ x∈e,0≤x.wt) {s:Nat} (hs:F s) {v:Nat} {m:Int} (hm:Wk e p s v m) (hlt:m<INF):
  ∃ z a b,F z∧Wk E (fun _=>true) s z a∧Wk e (fun i=>p i&&J i) z v b∧a+b≤m:=by
 induction hm with
 |nil=>exact ⟨s,0,0,hs,.nil,.nil,aA⟩
 | @step m i hi hp hwk ih=>
  have U:=hw _ (List.getElem_mem hi)
  obtain ⟨z,a,b,hz,h1,h2,h3⟩:=ih aA
  cases hsm:J i with
  |true=>exact ⟨z,a,b+e[i].wt,hz,h1,.step hi (by rw [hp,hsm];rfl) h2,aA⟩
  |false=>
   obtain ⟨Z,g2,j,hj,e1,e2,e3⟩:=h.arc i hi hp hsm
   have Y:0≤a:=by
    have:=(ov_sound h.sound h1).nonneg hw
    exact this
   obtain ⟨m',h4,X⟩:=h.part z _ b hz Z aA h2
   have O:=Wk.one (p:=fun _=>true) hj rfl
   rw [e1,e2] at O;exact ⟨e[i].dst.toNat,a+m' +E[j].wt,0,g2,(h1.trans X).trans O,.nil,aA⟩
theorem Ov.isB {e E:List Arc} {p X:Nat→Bool} {F:Nat→Prop} (h:Ov e E p X F) (hw:∀ x∈e,0≤x.wt) {s t:Nat} (hs:F s) (O:F t) {x:Int} (hx:IsB E (fun _=>true) s t x):IsB e p s t x:=
 ⟨hx.le,fun hlt=>ov_sound h.sound (hx.walk hlt),fun m hm=>by
  rcases Int.lt_or_le m INF with hlt|J
  ·obtain ⟨z,a,b,hz,h1,h2,h3⟩:=h.split hw hs hm hlt
   have ha:=(ov_sound h.sound h1).nonneg hw
   obtain ⟨m',Y,U⟩:=h.part z t b hz O aA h2
   have:=hx.min _ (h1.trans U)
   omega
  ·exact Int.le_trans hx.le J⟩
theorem Wk.same {l:List Arc} {f:Nat→Int} {p:Nat→Bool} (hp:∀ i (h:i<l.length),p i=true→f l[i].src.toNat=f l[i].dst.toNat) {s v:Nat} {m:Int} (h:Wk l p s v m):f v=f s:=by
 induction h with
 |nil=>rfl
 |step hi hpi _ ih=>rw [← hp _ hi hpi];exact ih
theorem Wk.keepP {l:List Arc} {p q:Nat→Bool} {I:Nat→Prop} {s v:Nat} {m:Int} (h:Wk l p s v m) (hs:I s) (J:∀ i (h:i<l.length),I l[i].src.toNat→p i=true→I l[i].dst.toNat∧q i=true):I v∧Wk l q s v m:=by
 induction h with
 |nil=>exact ⟨hs,.nil⟩
 |step hi hp _ ih=>
  obtain ⟨h1,h2⟩:=ih
  obtain ⟨h3,F⟩:=J _ hi h1 hp
  exact ⟨h3,.step hi F h2⟩
theorem Wk.other {l l' :List Arc} {p:Nat→Bool} (hl:l.length=l'.length) {s v:Nat} {m:Int} (h:Wk l p s v m) (J:∀ i (h:i<l.length) (h' :i<l'.length),p i=true→l'[i]=l[i]):Wk l' p s v m:=by
 induction h with
 |nil=>exact .nil
 |step hi hp _ ih=>
  have hi' :=hl▸hi
  have F:=J _ hi hi' hp
  rw [← F];exact .step hi' hp (by rw [F];exact ih)
theorem IsB.other {l l' :List Arc} {p:Nat→Bool} (hl:l.length=l'.length) {s v:Nat} {m:Int} (h:IsB l p s v m) (F:∀ i (h:i<l.length) (h' :i<l'.length),p i=true→l'[i]=l[i]):IsB l' p s v m:=
 ⟨h.le,fun hx=>(h.walk hx).other hl F,fun m hm=>h.min m (hm.other hl.symm fun i h1 h2 hp=>(F i h2 h1 hp).symm)⟩
theorem IsB.through {l:List Arc} {p q:Nat→Bool} {I:Nat→Prop} {s v:Nat} {m:Int} (h:IsB l p s v m) (hs:I s) (h1:∀ i (h:i<l.length),I l[i].src.toNat→p i=true→I l[i].dst.toNat∧q i=true) (h2:∀ i (h:i<l.length),I l[i].src.toNat→q i=true→I l[i].dst.toNat∧p i=true):IsB l q s v m:=
 ⟨h.le,fun hx=>((h.walk hx).keepP hs h1).2,fun m hm=>h.min m (hm.keepP hs h2).2⟩
theorem f3 (N:Int) (A:Option Addr) (l:List Arc) (cap:Nat) (w:World) (hr:Ro (Fr w []) w A (l.flatMap bZ)) (hl:l.length≤9223372036854775807) (hN:I64 N) (hok:∀ x∈l,eK x):
    Meets Tryz.prog 20 [.agg #[.int .i64 N,.slice A l.length cap]] w [] (fun v m=>v= .tuple #[.int .i64 (cG N l).1,.int .i64 (cG N l).2]∧m=[]):=by
 refine bE Tryz.func20 rfl Tryz.ntmps20 rfl Owns.nil<|aG fun kh1=>f_S (cT rfl rfl fun b1=>?_)
 refine aB 2 rfl<|aD kh1<|aS fun kh2=>aG fun kh3=>cL eT rfl<|cX Tryz.isAgg3 rfl (rdA rfl)<|aB 2 rfl<|d8 9 rfl (fun g9=>?_) (fun g9=>?_)
 ·refine aB 4 rfl<|aD kh3<|fI rfl<|aG fun kh4=>aB 2 rfl<|aD kh4<|aY<|cV ?_
  exact cZ [] Tryz.results20 rfl rfl aP ⟨by rw [gcheck_range aA],rfl⟩
 ·refine eA rfl rfl (aT eT rfl)<|eA rfl rfl (aH Tryz.isAgg3 rfl (rdA rfl))<|aB 2 rfl<|aD kh3<|aX rfl (fun c13=>?_) (fun c13=>?_)
  ·refine aG fun Y=>aB 2 rfl<|aD Y<|aY<|cV ?_
   exact cZ [] Tryz.results20 rfl rfl aP ⟨by rw [gcheck_range aA],rfl⟩
  ·have F:1≤N∧N≤1024:=aA
   refine bV kh2<|aS fun kh6=>aG fun kh7=>cL fT rfl<|cX Tryz.isAgg22 rfl (rdA rfl)<|dU jB rfl<|aB 1 rfl<|aD kh7<|aX rfl (fun c17=>?_) (fun c17=>?_)
   ·refine aG fun Z=>aB 2 rfl<|aD Z<|aY<|cV ?_
    exact cZ [] Tryz.results20 rfl rfl aP ⟨by rw [gcheck_long F aA],rfl⟩
   ·refine bV kh6<|aS fun kh9=>aG fun U=>cL fT rfl<|cX Tryz.isAgg22 rfl (rdA rfl)<|dU jB rfl<|aB 1 rfl<|aD U<|aR ?_
    refine lU (α:=Nat) [1,19,20] (fun k=>[(21,.int .i64 (k:Int))]) (fun k=>k≤l.length∧∀ j (h:j<l.length),j<k→gB N l[j]=false) (fun k=>l.length - k) (0) ?_ ?_ ?_
    ·exact aF
    ·exact ⟨aA,fun j h hj=>aA⟩
    ·rintro k ⟨aa,J⟩;refine aG fun kh11=>aB 1 rfl<|aD kh11<|aS fun kh12=>aX rfl (fun X=>?_) (fun X=>?_)
     ·refine bV kh12<|aS fun kh13=>aR<|aG fun kh14=>aB 1 rfl ?_
      have hk:k<l.length:=aA
      obtain ⟨b,off,rfl,hS,hc⟩:=hr (eX bZ dD aA hk)
      refine f_Q (aL jB rfl rfl (off+k*3))<|f_Q (aO (vs:=bZ l[k]) Tryz.isAgg69 Tryz.sizeOf69 rfl rfl (f8 dD hS hc hk))<|f_S (cQ Tryz.zeroValue69 rfl fun b5=>?_)
      refine aB 1 rfl<|f_Z (bP Tryz.sizeOf69 rfl rfl rfl rfl cF _ rfl ?_)
      refine aD kh14<|aG fun kh15=>cL fY rfl<|cX Tryz.isAgg3 rfl (rdA rfl)<|f_Q (g5 Tryz.runUnderlying3 Tryz.runUnderlying118 rfl _ rfl) ?_
      refine cL eT rfl<|cX Tryz.isAgg3 rfl (rdA rfl)<|f_Q (g5 Tryz.runUnderlying3 Tryz.runUnderlying118 rfl _ rfl) ?_
      refine aB 2 rfl<|d8 33 rfl (fun g33=>?_) (fun g33=>?_)
      ·refine aB 8 rfl<|aD kh15<|fI rfl<|aG fun kh16=>aB 3 rfl<|aD kh16<|aY<|fA<|cV<|cV ?_
       refine fA<|cV ?_
       exact cZ [] Tryz.results20 rfl rfl aP ⟨by rw [gcheck_bad F aA hk J (arcBadL F (hok _ (List.getElem_mem hk)) g33)],rfl⟩
      ·refine eA rfl rfl (aT fO rfl)<|eA rfl rfl (aH Tryz.isAgg3 rfl (rdA rfl))<|eA rfl rfl (g5 Tryz.runUnderlying3 Tryz.runUnderlying118 rfl _ rfl) ?_;refine eA rfl rfl (aT eT rfl)<|eA rfl rfl (aH Tryz.isAgg3 rfl (rdA rfl))<|eA rfl rfl (g5 Tryz.runUnderlying3 Tryz.runUnderlying118 rfl _ rfl) ?_;refine aB 2 rfl<|aD kh15<|aX rfl (fun c41=>?_) (fun c41=>?_)
       ·refine aG fun O=>aB 3 rfl<|aD O<|aY<|fA<|cV<|cV<|fA<|cV ?_
        exact cZ [] Tryz.results20 rfl rfl aP ⟨by rw [gcheck_bad F aA hk J (arcBadR F (hok _ (List.getElem_mem hk)) c41)],rfl⟩
       ·refine dY<|dF<|bO kh13<|aI<|f_Q (a8 rfl rfl)<|aB 1 rfl<|aZ ?_
        refine cS (a6 (k+1) (by first|omega|(dsimp only;omega)|(simp;omega)) ⟨aA,good_next J (arcGood F (hok _ (List.getElem_mem hk)) g33 c41)⟩ ?_ ?_ ?_)
        ·exact aF
        ·exact aF
        ·exact aC
     ·refine cN<|cO<|cO<|eC<|bO kh9<|aG fun kh18=>aB 2 rfl<|aD kh18<|aY ?_
      exact cZ [] Tryz.results20 rfl rfl aP ⟨by rw [gcheck_ok F aA (fun j h=>J j h aA)],rfl⟩
theorem looked_spec (N:Int) (A:Option Addr) (l:List Arc) (cap:Nat) (v:Int) (w:World) (hr:Ro (Fr w []) w A (l.flatMap bZ)) (hl:l.length≤9223372036854775807) (U:I64 N) (hok:∀ x∈l,eK x):
    Meets Tryz.prog 197 [.agg #[.int .i64 N,.slice A l.length cap],.int .i64 v] w [] (fun u m=>u= .int .i64 (jX N l v)∧m=[]):=by
 refine bE Tryz.func197 rfl Tryz.ntmps197 rfl Owns.nil<|aG fun kh1=>f_S (cT rfl rfl fun Y=>?_)
 refine aB 1 rfl<|aD kh1<|aS fun kh2=>aG fun kh3=>f_Q (aO (vs:=[_,_]) Tryz.isAgg24 Tryz.sizeOf24 rfl rfl ⟨(rdA rfl),(rdA rfl),trivial⟩) ?_
 refine f_S (aV Tryz.call20 rfl (fun X O=>f3 N A l cap X (hr.up0 O) hl U hok) ?_);rintro _ _ ⟨rfl,rfl⟩;dsimp only [aK,aJ];refine aB 5 rfl<|aD kh3<|aG fun kh4=>aB 2 rfl<|aD kh4<|aX rfl (fun c13=>?_) (fun c13=>?_)
 ·refine aG fun J=>aB 2 rfl<|aD J<|aY<|cV ?_
  exact bJ [] Tryz.results197 rfl aP ⟨by rw [glooked_bad c13],rfl⟩
 ·refine bV kh2<|aS fun kh6=>aG fun kh7=>aB 3 rfl<|d8 17 rfl (fun g17=>?_) (fun g17=>?_)
  ·refine aB 5 rfl<|aD kh7<|fI rfl<|aG fun kh8=>aB 1 rfl<|aD kh8<|aY<|cV ?_
   exact bJ [] Tryz.results197 rfl aP ⟨by rw [glooked_none (by simpa using c13) aA],rfl⟩
  ·refine aB 1 rfl<|eA rfl rfl (aT eT rfl)<|eA rfl rfl (aH Tryz.isAgg3 rfl (rdA rfl))<|aB 2 rfl<|aD kh7<|aX rfl (fun c22=>?_) (fun c22=>?_)
   ·refine aG fun F=>aB 1 rfl<|aD F<|aY<|cV ?_
    exact bJ [] Tryz.results197 rfl aP ⟨by rw [glooked_none (by simpa using c13) aA],rfl⟩
   ·refine bV kh6<|aG fun kh10=>aB 1 rfl<|aD kh10<|aY ?_
    exact bJ [] Tryz.results197 rfl aP ⟨by rw [glooked_ok (by simpa using c13) aA aA],rfl⟩
end Go.Proofs.YthpkelafioikaaaGreat
namespace Go.Proofs.YthpkelafioikaaaGreat
open Go Fly
set_option linter.unusedVariables false
set_option linter.unusedSectionVars false
set_option linter.unusedSimpArgs false
variable {α:Type} [DecidableEq α]
def cpt:List α→List α
 |[]=>[]
 |[x]=>[x]
 |x::y::r=>if x=y then cpt (y::r) else x::cpt (y::r)
theorem cpt_head:∀ (x:α) (r:List α),∃ F,cpt (x::r)=x::F
 |x,[]=>⟨[],rfl⟩
 |x,y::r=>by
  obtain ⟨F,h⟩:=cpt_head y r
  by_cases e:x=y
  ·subst e;exact ⟨F,by rw [cpt,if_pos rfl,h]⟩
  ·exact ⟨cpt (y::r),by rw [cpt,if_neg e]⟩
theorem cpt_snoc:∀ (F:List α) (z:α),cpt (F++[z])=if F.getLast? =some z then cpt F else cpt F++[z]
 |[],z=>by simp [cpt]
 |[x],z=>by
  by_cases e:x=z<;>simp [cpt,e]
 |x::y::r,z=>by
  have ih:=cpt_snoc (y::r) z
  have e1:(x::y::r).getLast? =(y::r).getLast? :=by simp [List.getLast?_cons_cons]
  show cpt (x::y::(r++[z]))=_
  rw [cpt,e1];rw [show y::(r++[z])=(y::r)++[z] from rfl,ih]
  by_cases e:x=y
  ·rw [if_pos e];rw [show cpt (x::y::r)=cpt (y::r) by rw [cpt,if_pos e]]
  ·rw [if_neg e];rw [show cpt (x::y::r)=x::cpt (y::r) by rw [cpt,if_neg e]]
   split<;>simp
theorem kI:∀ (l:List α),(cpt l).length≤l.length
 |[]=>Nat.le_refl _
 |[x]=>Nat.le_refl _
 |x::y::r=>by
  have:=kI (y::r)
  simp only [cpt];split<;>simp only [List.length_cons] at* <;>omega
theorem oH:∀ (l:List α) (a:α),a∈cpt l↔a∈l
 |[],a=>Iff.rfl
 |[x],a=>Iff.rfl
 |x::y::r,a=>by
  have ih:=oH (y::r) a
  simp only [cpt]
  split
  ·rename_i e;subst e;rw [ih];simp
  ·simp only [List.mem_cons] at ih ⊢;rw [ih]
theorem mE {l : List α} {j : Nat} (F : 0 < j) (hj : j < l.length) : cpt (l.take (j + 1)) = if l[j - 1]'aA = l[j] then cpt (l.take j) else cpt (l.take j) ++ [l[j]] := by
 rw [List.take_succ_eq_append_getElem hj,cpt_snoc]
 have : (l.take j).getLast? = some (l[j - 1]'aA) := by
  rw [List.getLast?_eq_getElem?,List.length_take,Nat.min_eq_left aA,List.getElem?_take_of_lt aA,List.getElem?_eq_getElem aA]
 rw [this]
 by_cases e : l[j - 1]'aA = l[j] <;> simp [e]
theorem cpt_one {l:List α} (h:0<l.length):cpt (l.take 1)=l.take 1:=by
 cases l with
 |nil=>simp at h
 |cons x r=>rfl
theorem q8 {R:α→α→Prop} (O:∀ a b c,R a b→R b c→R a c) (J:∀ a b,R a b→a≠b):∀ {l:List α},l.Pairwise (fun x y=>x=y∨R x y)→(cpt l).Pairwise R
 |[],_=>List.Pairwise.nil
 |[x],_=>by simp [cpt]
 |x::y::r,h=>by
  have h' :=List.pairwise_cons.1 h
  have ih:=q8 O J h'.2
  simp only [cpt]
  split
  ·exact ih
  ·rename_i e
   refine List.pairwise_cons.2 ⟨fun z hz=>?_,ih⟩
   rcases h'.1 z ((oH _ _).1 hz) with h1|h1
   ·subst h1
    obtain ⟨U,F⟩:=cpt_head y r
    rw [F] at hz ih;have h2:=(h'.1 y (List.mem_cons_self ..)).resolve_left e
    rcases List.mem_cons.1 hz with h3|h3
    ·exact absurd h3 e
    ·exact absurd rfl (J _ _ (O _ _ _ h2 ((List.pairwise_cons.1 ih).1 x h3)))
   ·exact h1
theorem cpt_int {l:List Int} (h:l.Pairwise (·≤·)):(cpt l).Pairwise (·<·):=
 q8 (R:=fun a b:Int=>a<b) (fun a b c h1 h2=>Int.lt_trans h1 h2) (fun a b h e=>by subst e;exact Int.lt_irrefl _ h) (h.imp fun {a b} (h:a≤b)=>aA)
end Go.Proofs.YthpkelafioikaaaGreat
