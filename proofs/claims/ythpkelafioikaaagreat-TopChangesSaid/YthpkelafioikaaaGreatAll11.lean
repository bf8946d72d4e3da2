import Derived.Test.YthpkelafioikaaaGreatFlyRun
import Derived.Test.YthpkelafioikaaaGreatAll10
import Derived.Test.YthpkelafioikaaaGreatAll2
import Derived.Test.YthpkelafioikaaaGreatAll0
import Derived.Test.YthpkelafioikaaaGreatAll1
namespace Go.Proofs.YthpkelafioikaaaGreat
open Go Go.RowKit Fly
set_option maxRecDepth 100000
set_option maxHeartbeats 4000000
set_option linter.all false
def BMk (b0:List Bool) (s:BSt):Prop:=∀ v:Nat,s.2.getD v false=true↔b0.getD v false=true∨(v:Int)∈s.1
theorem BMk.start {n c:Nat} {b:List Bool} (hb:b.length=n) (hc:c<n):BMk b (fM c b):=fun v=>by
 show (b.set c true).getD v false=true↔_∨(v:Int)∈[(c:Int)]
 rw [getD_set,List.mem_singleton]
 by_cases h:c=v
 ·subst h;rw [if_pos ⟨rfl,aA⟩];simp
 ·rw [if_neg (fun h' =>h h'.1)]
  constructor
  ·exact .inl
  ·rintro (h' |h')
   ·exact h'
   ·exact absurd aA h
theorem BMk.push1 {n:Nat} {b0:List Bool} {s:BSt} (F:BInv n s) (h:BMk b0 s) {u:Int} (J:0≤u∧u<(n:Int)):BMk b0 (jE s u):=by
 unfold jE
 split
 ·exact h
 ·intro v
  show (s.2.set u.toNat true).getD v false=true↔_∨(v:Int)∈s.1++[u]
  rw [getD_set,List.mem_append,List.mem_singleton]
  by_cases e:u.toNat=v
  ·rw [if_pos ⟨e,by rw [F.len];omega⟩]
   exact ⟨fun _=> .inr (.inr aA),fun _=>rfl⟩
  ·rw [if_neg (fun h' =>e h'.1),h v]
   constructor
   ·rintro (h' |h')
    ·exact .inl h'
    ·exact .inr (.inl h')
   ·rintro (h' |h' |h')
    ·exact .inl h'
    ·exact .inr h'
    ·exact absurd aA e
theorem BMk.push {n:Nat} {b0:List Bool} {row:List Int} (hr:∀ u∈row,0≤u∧u<(n:Int)):∀ {s:BSt},BInv n s→BMk b0 s→BMk b0 (i1 row s):=by
 induction row with
 |nil=>exact fun _ h=>h
 |cons u row ih=>exact fun F h=>ih (fun x hx=>hr x (List.mem_cons_of_mem _ hx)) (F.push1 (hr u (List.mem_cons_self ..))) (h.push1 F (hr u (List.mem_cons_self ..)))
theorem BMk.go {n:Nat} {b0:List Bool} {rows:Nat→List Int} (hr:∀ v,v<n→∀ u∈rows v,0≤u∧u<(n:Int)) {s:BSt} (J:BInv n s) (h:BMk b0 s):∀ k,BMk b0 (bgo rows s k)
 |0=>h
 |k+1=>by
  have ih:=BMk.go hr J h k
  have F:=BInv.go hr J k
  show BMk b0 (oJ rows k (bgo rows s k))
  rcases Nat.lt_or_ge k (bgo rows s k).1.length with hk|hk
  ·rw [pX hk]
   exact ih.push (hr _ (by have:=F.rng _ (List.getElem_mem hk);omega)) F
  ·rw [pV hk];exact ih
structure BLev (n:Nat) (rows:Nat→List Int) (c k:Nat) (s:BSt) (E:List Nat):Prop where
 len:E.length=s.1.length
 pos:0<s.1.length
 head:s.1[0]? =some (c:Int)∧E[0]? =some 0
 rise:E.Pairwise (·≤·)
 par : ∀ i (h : i < s.1.length) (h' : i < E.length), 0 < i → ∃ j, ∃ hj : j < i, s.1[i] ∈ rows (s.1[j]'aA).toNat ∧ E[i] = E[j]'aA + 1
 top:∀ (h' :k<E.length) i (h:i<E.length),E[i]≤E[k]+1
 clo:∀ j (h:j<s.1.length) (h' :j<E.length),j<k→∀ u∈rows s.1[j].toNat,∃ i,∃ hi:i<s.1.length,∃ hi' :i<E.length,s.1[i]=u∧E[i]≤E[j]+1
theorem BLev.start (n:Nat) (rows:Nat→List Int) (c:Nat) (b:List Bool):BLev n rows c 0 (fM c b) [0]:=
 ⟨rfl,by simp [fM],⟨rfl,rfl⟩,aN,fun i h _ hi=>by simp [fM] at h;omega,fun h' i h=>by simp at h;subst h;simp,fun j _ _ hj=>aA⟩
theorem BLev.push1 {n:Nat} {rows:Nat→List Int} {c k:Nat} {s:BSt} {E:List Nat} (h:BLev n rows c k s E) (hk:k<s.1.length) (F:k<E.length) {u:Int} (Z:u∈rows s.1[k].toNat) (hm:s.2.getD u.toNat false=true↔u∈s.1):
  ∃ E',BLev n rows c k (jE s u) E'∧E<+:E'∧(∃ i,∃ hi:i<(jE s u).1.length,∃ hi' :i<E'.length,(jE s u).1[i]=u∧E'[i]≤E[k]+1):=by
 unfold jE
 split
 ·rename_i Y
  refine ⟨E,h,List.prefix_refl _,?_⟩;obtain ⟨i,hi,he⟩:=List.mem_iff_getElem.1 (hm.1 Y)
  exact ⟨i,hi,by rw [h.len];exact hi,he,h.top F i _⟩
 ·have hlen:=h.len
  refine ⟨E++[E[k]+1],⟨by simp [hlen],aN,?_,?_,?_,?_,?_⟩,List.prefix_append _ _,s.1.length,aN,by simp [hlen],aN,?_⟩
  ·refine ⟨?_,?_⟩
   ·rw [List.getElem?_append_left h.pos];exact h.head.1
   ·rw [List.getElem?_append_left (by have:=h.pos;omega)];exact h.head.2
  ·rw [List.pairwise_append]
   refine ⟨h.rise,aN,fun a ha b hb=>?_⟩;simp only [List.mem_singleton] at hb;obtain ⟨i,hi,rfl⟩:=List.mem_iff_getElem.1 ha
   have:=h.top F i hi
   omega
  ·intro i hi hi' h0
   rcases Nat.lt_or_ge i s.1.length with hl|hl
   ·obtain ⟨j,hj,h1,h2⟩:=h.par i hl aA h0
    refine ⟨j,hj,?_,?_⟩
    ·rw [List.getElem_append_left hl,List.getElem_append_left aA];exact h1
    ·rw [List.getElem_append_left aA,List.getElem_append_left aA];exact h2
   ·have U:i=s.1.length:=by simp at hi;omega
    subst U;refine ⟨k,hk,?_,?_⟩
    ·rw [List.getElem_append_right (Nat.le_refl _),List.getElem_append_left hk];simpa using Z
    ·rw [List.getElem_append_right aA,List.getElem_append_left F];simp
  ·intro _ i hi
   rw [List.getElem_append_left F]
   rcases Nat.lt_or_ge i E.length with hl|hl
   ·rw [List.getElem_append_left hl];exact h.top F i hl
   ·rw [List.getElem_append_right hl];simp
  ·intro j hj aa X v hv
   have O:j<s.1.length:=aA
   have J:j<E.length:=aA
   rw [List.getElem_append_left O] at hv;obtain ⟨i,hi,hi',h1,h2⟩:=h.clo j O J X v hv
   refine ⟨i,by simp;omega,by simp;omega,?_,?_⟩
   ·rw [List.getElem_append_left hi];exact h1
   ·rw [List.getElem_append_left hi',List.getElem_append_left J];exact h2
  ·rw [List.getElem_append_right aA];simp
theorem pre_get {α:Type} {a b:List α} (h:a<+:b) {i:Nat} (hi:i<a.length):∃ hi' :i<b.length,b[i]=a[i]:=by
 obtain ⟨t,rfl⟩:=h
 exact ⟨by simp;omega,List.getElem_append_left hi⟩
theorem BLev.push {n:Nat} {rows:Nat→List Int} {c k:Nat} {b0:List Bool} (hf:∀ v,b0.getD v false=false) (hr:∀ v,v<n→∀ u∈rows v,0≤u∧u<(n:Int)) {s:BSt} {E:List Nat} (hI:BInv n s) (hM:BMk b0 s) (h:BLev n rows c k s E) (hk:k<s.1.length) (Z:k<E.length):
  ∀ j,j≤(rows s.1[k].toNat).length→∃ E',BLev n rows c k (i1 ((rows s.1[k].toNat).take j) s) E'∧E<+:E'∧
   ∀ u∈(rows s.1[k].toNat).take j,∃ i,∃ hi:i<(i1 ((rows s.1[k].toNat).take j) s).1.length,∃ hi' :i<E'.length,(i1 ((rows s.1[k].toNat).take j) s).1[i]=u∧E'[i]≤E[k]+1
 |0,_=>⟨E,by simpa [i1] using h,List.prefix_refl _,aN⟩
 |j+1,hj=>by
  obtain ⟨E1,h1,h2,h3⟩:=BLev.push hf hr hI hM h hk Z j aA
  have O:j<(rows s.1[k].toNat).length:=aA
  have J:=hr s.1[k].toNat (by have:=hI.rng _ (List.getElem_mem hk);omega)
  have ag:BInv n (i1 ((rows s.1[k].toNat).take j) s):=hI.push fun u F=>J u (List.mem_of_mem_take F)
  have ac:BMk b0 (i1 ((rows s.1[k].toNat).take j) s):=hM.push (fun u F=>J u (List.mem_of_mem_take F)) hI
  obtain ⟨r,X⟩:=bpush_ext ((rows s.1[k].toNat).take j) s
  have ad:k<(i1 ((rows s.1[k].toNat).take j) s).1.length:=by rw [X,List.length_append];omega
  have ae:(i1 ((rows s.1[k].toNat).take j) s).1[k]=s.1[k]:=by simp only [X];exact List.getElem_append_left hk
  obtain ⟨Y,aa⟩:=pre_get h2 Z
  have F:=J _ (List.getElem_mem O)
  have hm:(i1 ((rows s.1[k].toNat).take j) s).2.getD ((rows s.1[k].toNat)[j]).toNat false=true↔(rows s.1[k].toNat)[j]∈(i1 ((rows s.1[k].toNat).take j) s).1:=by
   rw [ac _,hf,Int.toNat_of_nonneg F.1];simp
  rw [rA O];obtain ⟨E2,g1,g2,g3⟩:=h1.push1 ad Y (u:=(rows s.1[k].toNat)[j]) (by rw [ae];exact List.getElem_mem O) hm
  refine ⟨E2,g1,h2.trans g2,fun u F=>?_⟩;rw [List.take_succ_eq_append_getElem O] at F
  rcases List.mem_append.1 F with F|F
  ·obtain ⟨i,hi,hi',e1,e2⟩:=h3 u F
   obtain ⟨ab,e3⟩:=pre_get g2 hi'
   obtain ⟨r2,U⟩:=bpush1_ext (i1 ((rows s.1[k].toNat).take j) s) (rows s.1[k].toNat)[j]
   refine ⟨i,by rw [U,List.length_append];omega,ab,?_,by rw [e3];exact e2⟩;simp only [U];rw [List.getElem_append_left hi];exact e1
  ·simp only [List.mem_singleton] at F
   subst F;obtain ⟨i,hi,hi',e1,e2⟩:=g3
   exact ⟨i,hi,hi',e1,by rw [aa] at e2;exact e2⟩
theorem BLev.step {n:Nat} {rows:Nat→List Int} {c k:Nat} {b0:List Bool} (hf:∀ v,b0.getD v false=false) (hr:∀ v,v<n→∀ u∈rows v,0≤u∧u<(n:Int)) {s:BSt} {E:List Nat} (hI:BInv n s) (hM:BMk b0 s) (h:BLev n rows c k s E):∃ E',BLev n rows c (k+1) (oJ rows k s) E' :=by
 rcases Nat.lt_or_ge k s.1.length with hk|hk
 ·have O:k<E.length:=by rw [h.len];exact hk
  obtain ⟨E',h1,h2,h3⟩:=BLev.push hf hr hI hM h hk O _ (Nat.le_refl _)
  rw [List.take_length] at h1 h3;rw [pX hk];refine ⟨E',{ h1 with top:=fun X i hi=>?_,clo:=fun j hj U aa u Y=>?_ }⟩
  ·obtain ⟨J,e⟩:=pre_get h2 O
   have h4:=h1.top J i hi
   have h5:=List.pairwise_iff_getElem.1 h1.rise k (k+1) J X aA
   omega
  ·rcases Nat.lt_or_ge j k with F|F
   ·exact h1.clo j hj U F u Y
   ·obtain rfl:j=k:=aA
    obtain ⟨r,ab⟩:=bpush_ext (rows s.1[j].toNat) s
    have Z:(i1 (rows s.1[j].toNat) s).1[j]=s.1[j]:=by
     have hg:(i1 (rows s.1[j].toNat) s).1[j]? =s.1[j]? :=by rw [ab,List.getElem?_append_left hk]
     rw [List.getElem?_eq_getElem hj,List.getElem?_eq_getElem hk] at hg;exact Option.some.inj hg
    rw [Z] at Y;obtain ⟨i,hi,hi',e1,e2⟩:=h3 u Y
    obtain ⟨J,e⟩:=pre_get h2 O
    exact ⟨i,hi,hi',e1,by rw [e];exact e2⟩
 ·rw [pV hk]
  refine ⟨E,{ h with top:=fun X i hi=>?_,clo:=fun j hj U aa u Y=>?_ }⟩
  ·have:=h.len;omega
  ·exact h.clo j hj U aA u Y
theorem BLev.go {n:Nat} {rows:Nat→List Int} {c:Nat} {b0:List Bool} (hb:b0.length=n) (hc:c<n) (hf:∀ v,b0.getD v false=false) (hr:∀ v,v<n→∀ u∈rows v,0≤u∧u<(n:Int)):∀ k,∃ E,BLev n rows c k (bgo rows (fM c b0) k) E
 |0=>⟨_,BLev.start n rows c b0⟩
 |k+1=>by
  obtain ⟨E,h⟩:=BLev.go hb hc hf hr k
  exact h.step hf hr (BInv.go hr (BInv.start hb hc) k) (BMk.go hr (BInv.start hb hc) (BMk.start hb hc) k)
theorem bfs_lev {n:Nat} {rows:Nat→List Int} {c:Nat} (hc:c<n) (hr:∀ v,v<n→∀ u∈rows v,0≤u∧u<(n:Int)):∃ E,BLev n rows c n (bfs n rows c (List.replicate n false)) E:=
 BLev.go aN hc (fun v=>by rw [List.getD_eq_getElem?_getD,List.getElem?_replicate];split<;>rfl) hr n
theorem bfs_mk {n:Nat} {rows:Nat→List Int} {c:Nat} {b:List Bool} (hb:b.length=n) (hc:c<n) (hr:∀ v,v<n→∀ u∈rows v,0≤u∧u<(n:Int)):BMk b (bfs n rows c b):=BMk.go hr (BInv.start hb hc) (BMk.start hb hc) n
structure OrdOk (n v:Nat) (s:BSt):Prop where
 len:s.2.length=n
 rng:∀ x∈s.1,0≤x∧x<(n:Int)
 nd:s.1.Nodup
 mrk:∀ u:Nat,s.2.getD u false=true↔(u:Int)∈s.1
 all:∀ u,u<v→(u:Int)∈s.1
theorem bgo_fresh {n:Nat} {rows:Nat→List Int} (hr:∀ v,v<n→∀ u∈rows v,0≤u∧u<(n:Int)) {c:Nat} {b:List Bool} (hb:b.length=n) (hc:c<n) (F:b.getD c false=false):∀ k,∀ x∈(bgo rows (fM c b) k).1,b.getD x.toNat false=false
 |0,x,hx=>by simp [bgo,fM] at hx;subst hx;simpa using F
 |k+1,x,hx=>by
  have ih:=bgo_fresh hr hb hc F k
  have Z:=BInv.go hr (BInv.start hb hc) k
  have hM:=BMk.go hr (BInv.start hb hc) (BMk.start hb hc) k
  rcases Nat.lt_or_ge k (bgo rows (fM c b) k).1.length with hk|hk
  ·have O:=hr _ (show ((bgo rows (fM c b) k).1[k]).toNat<n by have:=Z.rng _ (List.getElem_mem hk);omega)
   have key:∀ (row:List Int) (s:BSt),(∀ u∈row,0≤u∧u<(n:Int))→BInv n s→BMk b s→(∀ x∈s.1,b.getD x.toNat false=false)→∀ x∈(i1 row s).1,b.getD x.toNat false=false:=by
    intro row
    induction row with
    |nil=>intro s _ _ _ h x hx;exact h x hx
    |cons u row ih2=>
     intro s J U X h x hx;have hu:=J u (List.mem_cons_self ..)
     refine ih2 (jE s u) (fun y hy=>J y (List.mem_cons_of_mem _ hy)) (U.push1 hu) (X.push1 U hu) ?_ x hx;intro y hy
     unfold jE at hy
     split at hy
     ·exact h y hy
     ·rename_i hn
      rcases List.mem_append.1 hy with hy|hy
      ·exact h y hy
      ·simp only [List.mem_singleton] at hy
       subst hy;rw [X _] at hn
       cases hbv:b.getD y.toNat false with
       |false=>rfl
       |true=>exact absurd (.inl hbv) hn
   have Y:x∈(i1 (rows ((bgo rows (fM c b) k).1[k]).toNat) (bgo rows (fM c b) k)).1:=by
    have e:bgo rows (fM c b) (k+1)=oJ rows k (bgo rows (fM c b) k):=rfl
    rw [e,pX hk] at hx;exact hx
   exact key _ _ O Z hM ih x Y
  ·have e:bgo rows (fM c b) (k+1)=oJ rows k (bgo rows (fM c b) k):=rfl
   rw [e,pV hk] at hx;exact ih x hx
theorem ord_ok {n:Nat} {rows:Nat→List Int} (hr:∀ v,v<n→∀ u∈rows v,0≤u∧u<(n:Int)):∀ v,v≤n→OrdOk n v (eW n rows v)
 |0,_=>⟨by simp [eW],by simp [eW],by simp [eW],fun u=>by simp [eW,List.getD_eq_getElem?_getD,List.getElem?_replicate];split<;>rfl,fun u U=>aA⟩
 |v+1,h=>by
  have ih:=ord_ok hr v aA
  unfold eW
  split
  ·rename_i hm
   refine { ih with all:=fun u U=>?_ }
   rcases Nat.lt_or_ge u v with h1|h1
   ·exact ih.all u h1
   ·obtain rfl:u=v:=aA
    exact (ih.mrk u).1 hm
  ·rename_i hm
   have hv:v<n:=aA
   have J:=bfs_inv hr ih.len hv
   have X:=bfs_mk ih.len hv hr
   have O:=bgo_fresh hr ih.len hv (by simpa using hm) n
   refine ⟨J.len,fun x hx=>?_,?_,fun u=>?_,fun u U=>?_⟩
   ·rcases List.mem_append.1 hx with hx|hx
    ·exact ih.rng x hx
    ·exact J.rng x hx
   ·rw [List.nodup_append]
    refine ⟨ih.nd,J.nd,fun a ha b hb e=>?_⟩;subst e;have h1:=O a hb
    have h2:=(ih.mrk a.toNat).2 (by rw [Int.toNat_of_nonneg (ih.rng a ha).1];exact ha)
    rw [h1] at h2;cases h2
   ·show (bfs n rows v (eW n rows v).2).2.getD u false=true↔(u:Int)∈(eW n rows v).1++(bfs n rows v (eW n rows v).2).1
    rw [X u,ih.mrk u,List.mem_append]
   ·rcases Nat.lt_or_ge u v with h1|h1
    ·exact List.mem_append_left _ (ih.all u h1)
    ·obtain rfl:u=v:=aA
     refine List.mem_append_right _ ?_;obtain ⟨r,F⟩:=bgo_ext rows (fM u (eW n rows u).2) 0 n
     rw [Nat.zero_add] at F
     show (u:Int)∈(bgo rows (fM u (eW n rows u).2) n).1
     rw [F];exact List.mem_append_left _ (by simp [bgo,fM])
theorem OrdOk.full {n:Nat} {s:BSt} (h:OrdOk n n s):s.1.length=n:=by
 have h1:=pR h.rng h.nd
 have h2:=List.Nodup.length_le_of_subset (l₁:=(List.range n).map Int.ofNat) (l₂:=s.1) (by
  have:=List.nodup_range (n:=n)
  rw [List.Nodup,List.pairwise_map]
  exact this.imp fun {a b} hne e=>hne (by have:(a:Int)=b:=e;omega)) fun x hx=>by
  obtain ⟨u,F,rfl⟩:=List.mem_map.1 hx
  exact h.all u (List.mem_range.1 F)
 simp at h2;omega
theorem getD_in {α:Type} (l:List α) (d:α) {i:Nat} (h:i<l.length):l.getD i d=l[i]:=by simp [List.getD_eq_getElem?_getD,h]
theorem getD_out {α:Type} (l:List α) (d:α) {i:Nat} (h:l.length≤i):l.getD i d=d:=by simp [List.getD_eq_getElem?_getD,h]
theorem vrank_yes {keep:List Bool} {v:Nat} (h:v<keep.length) (hk:keep[v]=true):iD keep (v+1)=iD keep v+1:=by
 unfold iD;rw [verts_yes h hk,List.length_append];rfl
theorem vrank_no {keep:List Bool} {v:Nat} (h:v<keep.length) (hk:keep[v]=false):iD keep (v+1)=iD keep v:=by
 unfold iD;rw [verts_no h hk]
theorem vrank_all {keep:List Bool} {k:Nat} (h:keep.length≤k):iD keep k=(gZ keep).length:=by unfold iD;rw [verts_all h]
theorem vrank_mono (keep:List Bool) {j k:Nat} (h:j≤k):iD keep j≤iD keep k:=by
 induction k with
 |zero=>rw [Nat.le_zero.1 h];exact Nat.le_refl _
 |succ k ih=>
  rcases Nat.lt_or_ge j (k+1) with h' |h'
  ·have:=ih aA
   by_cases hl:k<keep.length
   ·cases hk:keep[k]
    ·rw [vrank_no hl hk];omega
    ·rw [vrank_yes hl hk];omega
   ·rw [vrank_all (k:=k+1) aA];rw [vrank_all (k:=k) aA] at this;exact this
  ·rw [show j=k+1 from by omega];exact Nat.le_refl _
theorem oX {keep:List Bool} {v:Nat} (h:v<keep.length) (hk:keep[v]=true):iD keep v<(gZ keep).length:=by
 have a:=vrank_yes h hk
 have b:=vrank_mono keep (j:=v+1) (k:=keep.length) aA
 rw [vrank_all (Nat.le_refl _)] at b;omega
theorem verts_at {keep:List Bool}:∀ k,k≤keep.length→∀ i,i<(gZ (keep.take k)).length→∃ u,∃ h:u<keep.length,u<k∧(gZ (keep.take k))[i]? =some (u:Int)∧keep[u]=true∧iD keep u=i
 |0,_,i,hi=>by rw [List.take_zero] at hi;exact absurd hi (Nat.not_lt_zero _)
 |k+1,hk,i,hi=>by
  have hl:k<keep.length:=aA
  cases hkk:keep[k]
  ·rw [verts_no hl hkk] at hi ⊢
   obtain ⟨u,h,O,e,r⟩:=verts_at k aA i hi
   exact ⟨u,h,aA,e,r⟩
  ·rw [verts_yes hl hkk] at hi ⊢
   by_cases F:i<(gZ (keep.take k)).length
   ·obtain ⟨u,h,O,e,r⟩:=verts_at k aA i F
    exact ⟨u,h,aA,by rw [List.getElem?_append_left F];exact e,r⟩
   ·rw [List.length_append,List.length_singleton] at hi
    have J:i=(gZ (keep.take k)).length:=aA
    exact ⟨k,hl,aA,by rw [J,List.getElem?_append_right (Nat.le_refl _),Nat.sub_self];rfl,hkk,by rw [J];rfl⟩
theorem verts_get {keep:List Bool} {i:Nat} (hi:i<(gZ keep).length):∃ u,∃ h:u<keep.length,(gZ keep)[i]? =some (u:Int)∧keep[u]=true∧iD keep u=i:=by
 have e:keep.take keep.length=keep:=List.take_length
 obtain ⟨u,h,_,a,b,c⟩:=verts_at keep.length (Nat.le_refl _) i (by rw [e];exact hi)
 rw [e] at a;exact ⟨u,h,a,b,c⟩
theorem verts_ne {keep:List Bool} {v:Nat} (h:v<keep.length) (hk:keep[v]=true):(gZ keep).length≠0:=by
 have:=oX h hk;omega
theorem kin_true {keep:List Bool} {x:Arc} (h:kin keep x=true):∃ (h1:x.src.toNat<keep.length) (h2:x.dst.toNat<keep.length),keep[x.src.toNat]=true∧keep[x.dst.toNat]=true:=by
 have key:∀ v,keep.getD v false=true→∃ h:v<keep.length,keep[v]=true:=fun v hv=>by
  by_cases hl:v<keep.length
  ·rw [getD_in _ _ hl] at hv;exact ⟨hl,hv⟩
  ·rw [getD_out _ _ aA] at hv;cases hv
 unfold kin at h
 rw [Bool.and_eq_true] at h;obtain ⟨h1,e1⟩:=key _ h.1
 obtain ⟨h2,e2⟩:=key _ h.2
 exact ⟨h1,h2,e1,e2⟩
theorem sub_good {keep:List Bool} {l:List Arc} (hk:keep.length≤1024) (hl:l.length≤8192) (hv:(gZ keep).length≠0):cG ((gZ keep).length:Int) (fJ keep l)=(0,0):=by
 have h1:=verts_le keep
 have h2:=sub_len keep l
 refine gcheck_ok ⟨aA,aA⟩ aA fun j hj=>?_;have hm:=List.getElem_mem hj
 unfold fJ at hm
 rw [List.mem_map] at hm;obtain ⟨x,hx,e⟩:=hm
 rw [List.mem_filter] at hx;obtain ⟨ha,hb,e1,e2⟩:=kin_true hx.2
 have F:=oX ha e1
 have J:=oX hb e2
 unfold fJ
 rw [← e]
 unfold gB subArc
 simp;omega
theorem sub_ok {keep:List Bool} {l:List Arc} (hk:keep.length≤1024) (hok:∀ x∈l,eK x):∀ x∈fJ keep l,eK x:=by
 intro y hy
 unfold fJ at hy
 obtain ⟨x,hx,rfl⟩:=List.mem_map.1 hy
 have F:=hok x (List.mem_filter.1 hx).1
 obtain ⟨ha,hb,e1,e2⟩:=kin_true (List.mem_filter.1 hx).2
 have J:=oX ha e1
 have O:=oX hb e2
 have:=verts_le keep
 exact ⟨⟨by show _≤((iD keep x.src.toNat:Nat):Int);omega,by show ((iD keep x.src.toNat:Nat):Int)≤_;omega⟩,⟨by show _≤((iD keep x.dst.toNat:Nat):Int);omega,by show ((iD keep x.dst.toNat:Nat):Int)≤_;omega⟩,F.wt⟩
theorem vrank_inj {keep:List Bool} {u v:Nat} (J:u<keep.length) (hv:v<keep.length) (F:keep[u]=true) (O:keep[v]=true) (e:iD keep u=iD keep v):u=v:=by
 rcases Nat.lt_trichotomy u v with h|h|h
 ·have:=vrank_yes J F;have:=vrank_mono keep (j:=u+1) (k:=v) aA;omega
 ·exact h
 ·have:=vrank_yes hv O;have:=vrank_mono keep (j:=v+1) (k:=u) aA;omega
theorem reg_head {n:Nat} {l:List Arc} {O X:Nat} {L:List Int} (hg:(cG (n:Int) l).2=0) (hok:RegOk n l O X L):∃ h:0<L.length,L[0]=(O:Int):=by
 obtain ⟨Z,F⟩:=pH hg
 obtain ⟨E,U⟩:=bfs_lev (rows:=fun v:Nat=>dS (v:Int) l) hok.c F
 have J:=hok.is
 have hm:=hok.m
 have hp:=U.pos
 have Y:0<L.length:=by rw [J,List.length_take];omega
 refine ⟨Y,?_⟩;have:=U.head.1
 rw [List.getElem?_eq_getElem hp] at this;subst J;rw [List.getElem_take];exact Option.some.inj this
theorem nc_looked {n:Nat} {l:List Arc} {c most:Int} (F:ncE (n:Int) l c most=0) (hne:(eV (n:Int) l c most).1.length≠n):gU (j6 n l c most) (oT (prs n l) (fQ n l c most)) 0 1=0:=by
 unfold ncE at F
 by_cases h1:(eV (n:Int) l c most).2≠0
 ·rw [if_pos h1] at F;exact absurd F h1
 ·rw [if_neg h1,if_neg aA,Int.toNat_natCast] at F;exact F
theorem nc_unique {n:Nat} {l:List Arc} {c most:Int} {C C' :List Pr} (h0:ncE (n:Int) l c most=0) (Z:NcΦ n l c most C) (J:NcΦ n l c most C'):C=C' :=by
 by_cases e:(eV (n:Int) l c most).1.length=n
 ·rw [Z.1 e,J.1 e]
 ·obtain ⟨f,V,sd,hl,hF,hS,rfl⟩:=Z.2 e
  obtain ⟨f',V',O,ad,X,Y,rfl⟩:=J.2 e
  have hf:=nc_looked h0 e
  obtain ⟨hk,_,ac,_,aa,_⟩:=flooked_zero hf
  obtain ⟨ag,ab,ae,U⟩:=ncheck_zero hk
  have he:mO (j6 n l c most).toNat (oT (prs n l) (fQ n l c most)):=fun x hx=>by
   obtain ⟨j,hj,rfl⟩:=List.mem_iff_getElem.1 hx
   have:=U j hj;omega
  have F:=(Side.same he aA hF X hS Y).2
  have:sd=O:=List.ext_getElem aA fun i h1 h2=>by
   have:=F i aA
   simpa [List.getD_eq_getElem?_getD,h1,h2] using this
  rw [this]
theorem prs_few {n:Nat} {l:List Arc} (hg:∀ a∈l,(0≤a.src∧a.src<(n:Int))∧0≤a.dst∧a.dst<(n:Int)):(prs n l).length≤l.length:=by
 have F:(prs n l).Nodup:=(qH n l).imp fun {a b} h e=>by subst e;unfold ltX at h;omega
 have h1:=List.Nodup.length_le_of_subset F (l₂:=kL l) fun p hp=>(mem_prs hg).1 hp
 refine Nat.le_trans h1 ?_
 unfold kL
 rw [List.length_map];exact List.length_filter_le _ _
theorem nc_zero {n:Nat} {l:List Arc} {c most:Int} (h:(eV (n:Int) l c most).2=0):ncE (n:Int) l c most=0:=by
 unfold ncE
 rw [if_neg (by rw [h];simp)]
 by_cases e:((eV (n:Int) l c most).1.length:Int)=n
 ·rw [if_pos e]
 ·rw [if_neg e,Int.toNat_natCast]
  obtain ⟨hg,n',J,F,en,rfl,rfl,hok⟩:=reg_ok h
  obtain rfl:n=n' :=aA
  obtain ⟨ae,ac,aj,Y⟩:=bS hg
  have O:∀ a∈l,(0≤a.src∧a.src<(n:Int))∧0≤a.dst∧a.dst<(n:Int):=fun a ha=>by
   obtain ⟨i,hi,rfl⟩:=List.mem_iff_getElem.1 ha
   have:=Y i hi;omega
  have ai:(eV (n:Int) l (J:Int) (F:Int)).1.length≤n:=pR hok.rng hok.nd
  have aa:0<(eV (n:Int) l (J:Int) (F:Int)).1.length:=(reg_head hg hok).1
  have ad:(iZ (n:Int) l (J:Int) (F:Int)).1.length=min (((eV (n:Int) l (J:Int) (F:Int)).1.length+3) / 4) (eV (n:Int) l (J:Int) (F:Int)).1.length:=by unfold iZ;simp only [List.length_take]
  have hN:j6 n l (J:Int) (F:Int)=2+((eV (n:Int) l (J:Int) (F:Int)).1.length:Int) - ((iZ (n:Int) l (J:Int) (F:Int)).1.length:Int):=rfl
  have X:=ndTo_rng (eV (n:Int) l (J:Int) (F:Int)).1 (iZ (n:Int) l (J:Int) (F:Int)).1.length n (eV (n:Int) l (J:Int) (F:Int)).1.length aA _ (Nat.le_refl _)
  have ab:(fQ n l (J:Int) (F:Int)).length=n:=ndTo_len _ _ _ _
  have Z:=prs_few O
  have hlen:=cutE_len (fQ n l (J:Int) (F:Int)) (prs n l)
  have U:∀ u:Int,0≤u→u<(n:Int)→0≤nd (fQ n l (J:Int) (F:Int)) u∧nd (fQ n l (J:Int) (F:Int)) u<j6 n l (J:Int) (F:Int):=fun u ah ag=>by
   rw [nd_at aA];have:=X _ (List.getElem_mem (show u.toNat<(fQ n l (J:Int) (F:Int)).length by omega))
   rw [hN];exact this
  have hk:jM (j6 n l (J:Int) (F:Int)) (oT (prs n l) (fQ n l (J:Int) (F:Int)))=(0,0):=ncheck_ok aA aA fun j hj=>by
   have hm:=List.getElem_mem hj
   obtain ⟨p,hp,hq⟩:=List.mem_flatMap.1 hm
   have hr:=i6 hp
   have h1:=U p.1 hr.1.1 hr.1.2
   have h2:=U p.2 hr.2.1 hr.2.2
   generalize (oT (prs n l) (fQ n l (J:Int) (F:Int)))[j]=x at hq
   split at hq
   ·simp only [List.mem_cons,List.not_mem_nil,or_false] at hq
    rcases hq with rfl|rfl<;>(unfold gB;simp;omega)
   ·cases hq
  unfold gU
  rw [hk,if_neg (by decide),if_neg aA,if_neg (by decide)]
def mkE (N:Int) (l:List Arc) (cs:List Int) (most:Int):Int:=if (cG N l).2≠0 then (cG N l).2 else if 16384<cs.length then 2 else if most<1∨1024<most then 1 else if cs.any (offV N) then 5 else 0
structure Td (cs:List Int) (ents:List (Int×Value×Nat)):Prop where
 yes:∀ q∈cs,∃ c:Int,eR ents q=some (.int .i64 c)∧1≤c∧c≤(cs.length:Int)
 no:∀ q,q∉cs→eR ents q=none
theorem Td.nil:Td [] [] where
 yes:=fun q hq=>by cases hq
 no:=fun q _=>rfl
theorem Td.val {cs:List Int} {ents:List (Int×Value×Nat)} (h:Td cs ents) (q:Int):∃ c:Int,(eR ents q).getD (.int .i64 0)= .int .i64 c∧0≤c∧c≤(cs.length:Int):=by
 by_cases hq:q∈cs
 ·obtain ⟨c,h1,h2,h3⟩:=h.yes q hq
  exact ⟨c,by rw [h1];rfl,aA,h3⟩
 ·exact ⟨0,by rw [h.no q hq];rfl,aA,aA⟩
theorem Td.add {cs:List Int} {ents:List (Int×Value×Nat)} (h:Td cs ents) {q:Int} {c:Int} (J:0≤c) (h1:c≤(cs.length:Int)) (k:Nat):Td (cs++[q]) (fS ents q (.int .i64 (c+1)) k) where
 yes:=fun x hx=>by
  rw [jA]
  by_cases e:x=q
  ·rw [if_pos e];exact ⟨_,rfl,aA,by simp;omega⟩
  ·rw [if_neg e]
   rcases List.mem_append.1 hx with hx|hx
   ·obtain ⟨d,h2,h3,F⟩:=h.yes x hx
    exact ⟨d,h2,h3,by simp;omega⟩
   ·exact absurd (List.mem_singleton.1 hx) e
 no:=fun x hx=>by
  rw [jA,if_neg (fun e=>hx (by simp [e]))];exact h.no x fun hm=>hx (by simp [hm])
structure Tg (cs:List Int) (k:Nat) (ents:List (Int×Value×Nat)):Prop where
 gone:∀ v∈cs.take k,eR ents v=none
 left:∀ v∈cs,v∉cs.take k→∃ c:Int,eR ents v=some (.int .i64 c)∧1≤c
theorem Tg.val {cs:List Int} {k:Nat} {ents:List (Int×Value×Nat)} (h:Tg cs k ents) {v:Int} (hv:v∈cs):∃ c:Int,(eR ents v).getD (.int .i64 0)= .int .i64 c∧(c=0↔v∈cs.take k):=by
 by_cases hm:v∈cs.take k
 ·exact ⟨0,by rw [h.gone v hm];rfl,by simp [hm]⟩
 ·obtain ⟨c,h1,h2⟩:=h.left v hv hm
  exact ⟨c,by rw [h1];rfl,by constructor;intro e;omega;intro e;exact absurd e hm⟩
theorem Tg.skip {cs:List Int} {k:Nat} {ents:List (Int×Value×Nat)} (h:Tg cs k ents) (hk:k<cs.length) (hm:cs[k]∈cs.take k):Tg cs (k+1) ents where
 gone:=fun v hv=>by
  rw [List.take_succ_eq_append_getElem hk] at hv
  rcases List.mem_append.1 hv with hv|hv
  ·exact h.gone v hv
  ·obtain rfl:=List.mem_singleton.1 hv;exact h.gone _ hm
 left:=fun v hv hn=>h.left v hv fun F=>hn (by rw [List.take_succ_eq_append_getElem hk];exact List.mem_append_left _ F)
theorem Tg.del {cs:List Int} {k:Nat} {ents:List (Int×Value×Nat)} (h:Tg cs k ents) (hn:(ents.map (·.1)).Nodup) (hk:k<cs.length):Tg cs (k+1) (mdel ents cs[k]) where
 gone:=fun v hv=>by
  rw [mget_del hn]
  split
  ·rfl
  ·rename_i hne
   rw [List.take_succ_eq_append_getElem hk] at hv
   rcases List.mem_append.1 hv with hv|hv
   ·exact h.gone v hv
   ·exact absurd (List.mem_singleton.1 hv) hne
 left:=fun v hv F=>by
  rw [List.take_succ_eq_append_getElem hk] at F;rw [mget_del hn,if_neg (fun e=>F (List.mem_append_right _ (by rw [e];exact List.mem_singleton.2 rfl)))];exact h.left v hv fun J=>F (List.mem_append_left _ J)
def OutI (n:Nat) (l:List Arc) (most:Int) (done:List Int) (O:List Pr):Prop:=∀ p,p∈O↔∃ v∈done,∃ C,NcΦ n l v most C∧p∈C
theorem OutI.skip {n:Nat} {l:List Arc} {most:Int} {cs:List Int} {k:Nat} {O:List Pr} (h:OutI n l most (cs.take k) O) (hk:k<cs.length) (hm:cs[k]∈cs.take k):OutI n l most (cs.take (k+1)) O:=fun p=>by
 rw [h p,List.take_succ_eq_append_getElem hk];constructor
 ·rintro ⟨v,hv,h2⟩;exact ⟨v,List.mem_append_left _ hv,h2⟩
 ·rintro ⟨v,hv,h2⟩
  rcases List.mem_append.1 hv with hv|hv
  ·exact ⟨v,hv,h2⟩
  ·obtain rfl:=List.mem_singleton.1 hv;exact ⟨_,hm,h2⟩
theorem OutI.add {n:Nat} {l:List Arc} {most:Int} {cs:List Int} {k:Nat} {O C:List Pr} (h:OutI n l most (cs.take k) O) (hk:k<cs.length) (U:ncE (n:Int) l cs[k] most=0) (J:NcΦ n l cs[k] most C):OutI n l most (cs.take (k+1)) (O++C):=fun p=>by
 rw [List.mem_append,h p,List.take_succ_eq_append_getElem hk];constructor
 ·rintro (⟨v,hv,h2⟩|hp)
  ·exact ⟨v,List.mem_append_left _ hv,h2⟩
  ·exact ⟨cs[k],List.mem_append_right _ (List.mem_singleton.2 rfl),C,J,hp⟩
 ·rintro ⟨v,hv,X,F,hp⟩
  rcases List.mem_append.1 hv with hv|hv
  ·exact .inl ⟨v,hv,X,F,hp⟩
  ·obtain rfl:=List.mem_singleton.1 hv
   exact .inr (by rw [nc_unique U J F];exact hp)
theorem reg_zeroN {n:Nat} {l:List Arc} {c most:Int} (hg:(cG (n:Int) l).2=0) (hc:0≤c∧c<(n:Int)) (hm:1≤most∧most≤1024):(eV (n:Int) l c most).2=0:=by
 unfold eV
 rw [if_neg (by rw [hg];simp),if_neg aA,if_neg aA]
theorem nc_sub {n:Nat} {l:List Arc} {c most:Int} {C:List Pr} (h:NcΦ n l c most C):(∀ p∈C,p∈prs n l)∧C.length≤(prs n l).length:=by
 by_cases e:(eV (n:Int) l c most).1.length=n
 ·rw [h.1 e];exact ⟨fun p hp=>(by cases hp),Nat.zero_le _⟩
 ·obtain ⟨_,_,_,_,_,_,rfl⟩:=h.2 e
  exact ⟨fun p hp=>(List.mem_filter.1 hp).1,List.length_filter_le _ _⟩
theorem prs_one (C:List Pr):(C.flatMap fC).all (·.oneCell')=true:=by
 rw [List.all_eq_true];intro v hv;obtain ⟨p,_,hp⟩:=List.mem_flatMap.1 hv
 simp only [fC,List.mem_cons,List.not_mem_nil,or_false] at hp
 rcases hp with rfl|rfl<;>rfl
theorem Marks1_spec (N:Int) (A:Option Addr) (len cap b:Nat) (i:Int) (w:World) (h2:Ro (Fr w []) w (some ⟨b,0,none⟩) [.int .i64 N,.slice A len cap]):
    Meets Tryz.prog 129 ([.int .i64 i]++[.pointer (some ⟨b,0,none⟩)]) w [] (fun u m=>u= .bool (offV N i)∧m=[]):=by
 obtain ⟨b',o',e',J,F⟩:=h2 aN
 obtain ⟨rfl,rfl⟩:b=b'∧0=o' :=by cases e';exact ⟨rfl,rfl⟩
 refine bE Tryz.func129 rfl Tryz.ntmps129 rfl Owns.nil<|aG fun kh1=>aB 1 rfl<|aD kh1<|aG fun kh2=>aB 3 rfl<|d8 6 rfl (fun g6=>?_) (fun g6=>?_)
 ·refine aB 6 rfl<|aD kh2<|aY ?_
  exact bJ [] Tryz.results129 rfl aP ⟨by unfold offV;rw [decide_eq_true (.inl g6)],rfl⟩
 ·refine aB 1 rfl<|eA rfl rfl (aT eT rfl)<|eA rfl rfl (aH Tryz.isAgg3 rfl (rdS J (F 0 _ rfl)))<|aB 3 rfl<|aD kh2<|aY ?_
  exact bJ [] Tryz.results129 rfl aP ⟨by unfold offV;congr 1;apply decide_eq_decide.2;omega,rfl⟩
theorem Marks_spec (N:Int) (A B:Option Addr) (l:List Arc) (cap:Nat) (cs:List Int) (cb:Nat) (most:Int) (w:World) (hr:Ro (Fr w []) w A (l.flatMap bZ)) (hl:l.length≤9223372036854775807) (hN:I64 N) (hok:∀ x∈l,eK x) (hL:Ro (Fr w []) w B (bF cs)) (hm:cs.length≤9223372036854775807):
    Meets Tryz.prog 82 [.agg #[.int .i64 N,.slice A l.length cap],.slice B cs.length cb,.int .i64 most] w [] (fun u own' =>∃ (M:List Pr) (A' :Option Addr) (c2:Nat) (m' :Seg),u= .tuple #[.slice A' M.length M.length,.int .i64 (mkE N l cs most)]∧own' =[m']∧Own 215 2 (.slice A' M.length c2) M.length (M.flatMap fC) m'∧(mkE N l cs most≠0→M=[])∧(mkE N l cs most=0→M.Pairwise ltX∧OutI N.toNat l most cs M)):=by
 refine bE Tryz.func82 rfl Tryz.ntmps82 rfl Owns.nil<|aG fun kh1=>f_S (cT rfl rfl fun b3=>?_)
 refine aB 2 rfl<|aD kh1<|aS fun kh2=>aG fun kh3=>f_Q (aO (vs:=[_,_]) Tryz.isAgg24 Tryz.sizeOf24 rfl rfl ⟨(rdA rfl),(rdA rfl),trivial⟩) ?_
 refine f_S (aV Tryz.call20 rfl (fun w_ hp_=>f3 N A l cap w_ (hr.up0 hp_) hl hN hok) ?_);rintro _ _ ⟨rfl,rfl⟩;dsimp only [aK,aJ];refine aB 5 rfl<|aD kh3<|aG fun kh4=>aB 2 rfl<|aD kh4<|aX rfl (fun c24=>?_) (fun c24=>?_)
 ·refine aG fun bg=>aB 3 rfl<|aD bg<|aY<|cV ?_
  have aa:(cG N l).2≠0:=by simpa using c24
  have he:mkE N l cs most=(cG N l).2:=by unfold mkE;rw [if_pos aa]
  exact cZ [[]] Tryz.results82 rfl rfl (show Fly.Sub _ [[]] from aC) ⟨[],none,0,[],by rw [he];rfl,rfl,Own.nil _ _,fun _=>rfl,fun h=>absurd (he.symm.trans h) aa⟩
 ·have hg:(cG N l).2=0:=by simpa using c24
  obtain ⟨bR,bL,b2,bc⟩:=bS hg
  obtain ⟨n,rfl⟩:∃ n:Nat,N=(n:Int):=⟨N.toNat,aA⟩
  have bj:n≤1024:=aA
  have bv:=prs_len bj l
  refine bV kh2<|aS fun kh6=>aR<|aG fun kh7=>aB 1 rfl<|dU bX rfl<|aB 2 rfl<|aD kh7<|aX rfl (fun c26=>?_) (fun c26=>?_)
  ·refine aG fun be=>aB 2 rfl<|aD be<|aY<|fA<|cV ?_
   have he:mkE (n:Int) l cs most=2:=by unfold mkE;rw [if_neg (by rw [hg];simp),if_pos aA]
   exact cZ [[]] Tryz.results82 rfl rfl (show Fly.Sub _ [[]] from aC) ⟨[],none,0,[],by rw [he];rfl,rfl,Own.nil _ _,fun _=>rfl,fun h=>by rw [he] at h;cases h⟩
  ·refine aG fun kh9=>aB 3 rfl<|d8 33 rfl (fun g33=>?_) (fun g33=>?_)
   ·refine aB 4 rfl<|aD kh9<|fI rfl<|aG fun kh10=>aB 2 rfl<|aD kh10<|aY<|fA<|cV ?_
    have he:mkE (n:Int) l cs most=1:=by unfold mkE;rw [if_neg (by rw [hg];simp),if_neg aA,if_pos aA]
    exact cZ [[]] Tryz.results82 rfl rfl (show Fly.Sub _ [[]] from aC) ⟨[],none,0,[],by rw [he];rfl,rfl,Own.nil _ _,fun _=>rfl,fun h=>by rw [he] at h;cases h⟩
   ·refine aB 4 rfl<|aD kh9<|aX rfl (fun c30=>?_) (fun c30=>?_)
    ·refine aG fun aq=>aB 2 rfl<|aD aq<|aY<|fA<|cV ?_
     have he:mkE (n:Int) l cs most=1:=by unfold mkE;rw [if_neg (by rw [hg];simp),if_neg aA,if_pos aA]
     exact cZ [[]] Tryz.results82 rfl rfl (show Fly.Sub _ [[]] from aC) ⟨[],none,0,[],by rw [he];rfl,rfl,Own.nil _ _,fun _=>rfl,fun h=>by rw [he] at h;cases h⟩
    ·refine aG fun kh12=>aB 1 rfl<|f_Q (kT rfl rfl) ?_
     refine f_S (aV Tryz.call75 rfl (fun w_ hp_=>ContG_spec B cs cb (offV (n:Int)) 129 [.pointer (some ⟨b3,0,none⟩)] w_ (hL.up0 hp_) hm Tryz.call129 (fun w' hs i hi=>Marks1_spec (n:Int) A l.length cap b3 i w' (oQ hp_ hs))) ?_);rintro _ _ ⟨rfl,rfl⟩;dsimp only [aK,aJ];refine aB 1 rfl<|aD kh12<|eO rfl (fun c37=>?_) (fun c37=>?_)
     ·refine aG fun ai=>aB 2 rfl<|aD ai<|aY<|fA<|cV ?_
      have he:mkE (n:Int) l cs most=5:=by unfold mkE;rw [if_neg (by rw [hg];simp),if_neg aA,if_neg aA,if_pos c37]
      exact cZ [[]] Tryz.results82 rfl rfl (show Fly.Sub _ [[]] from aC) ⟨[],none,0,[],by rw [he];rfl,rfl,Own.nil _ _,fun _=>rfl,fun h=>by rw [he] at h;cases h⟩
     ·have av:∀ v∈cs,0≤v∧v<(n:Int):=fun v hv=>by
        have h1:=List.any_eq_false.1 c37 v hv
        unfold offV at h1
        simp at h1;omega
      refine dY<|dF<|bO kh6<|aG fun kh14=>f_S (iU fun ax=>?_)
      refine aB 1 rfl<|aD kh14<|aS fun kh15=>aG fun au=>aB 1 rfl<|dU bX rfl<|aB 1 rfl<|aD au<|aR ?_
      refine dA (α:=Nat×List (Int×Value×Nat)×Nat) [1,2,3,10,42,43] (fun ⟨k,ents,J⟩=>[(44,.int .i64 (k:Int))]) (fun ⟨k,ents,J⟩=>[[(ax,e7 (fun x:Int=> .int .i64 x) ents J)],[(b3,blk [.int .i64 (n:Int),.slice A l.length cap] 24)]]) (fun ⟨k,ents,J⟩=>k≤cs.length∧MOk ents J∧Td (cs.take k) ents) (fun ⟨k,ents,J⟩=>cs.length - k) (0,[],0) ?_ ?_ ?_ ?_
      ·exact aF
      ·exact aC
      ·exact ⟨aA,MOk.nil,Td.nil⟩
      ·rintro ⟨k,ents,J⟩ ⟨ay,F,X⟩;refine aG fun kh17=>aB 1 rfl<|aD kh17<|aS fun kh18=>aX rfl (fun az=>?_) (fun az=>?_)
       ·have hk:k<cs.length:=aA
        obtain ⟨bb,ob,rfl,ae,ab⟩:=hL (fun e=>by have:=a7 cs;rw [e] at this;simp at this;omega)
        obtain ⟨c,hc,bp,aj⟩:=X.val cs[k]
        have a2:cs.take (k+1)=cs.take k++[cs[k]]:=List.take_succ_eq_append_getElem hk
        have bu:(cs.take k).length=k:=by rw [List.length_take];omega
        have Z:=X.add (q:=cs[k]) bp aj J
        rw [← a2] at Z;rw [bu] at aj;refine bV kh18<|aS fun kh19=>aR<|aG fun kh20=>f_Q (aL bX rfl rfl (ob+k))<|f_Q (aH Tryz.isAgg3 rfl (d3 (enc:=(.int .i64 ·)) ae ab hk))<|aB 1 rfl<|aD kh20<|aI<|aB 2 rfl ?_
        refine f_Q (fD kt201 Tryz.zeroValue3 rfl rfl rfl (.int .i64 c) hc)<|f_Q (a8 rfl rfl)<|f_Z (e8 kt201 rfl rfl rfl rfl ?_)
        refine aZ<|dF<|bO kh19<|aI<|f_Q (a8 rfl rfl)<|aB 1 rfl<|aZ ?_
        refine cS (a6 (k+1,fS ents cs[k] (.int .i64 (c+1)) J,fK ents cs[k] J) (by first|omega|(dsimp only;omega)|(simp;omega)) ⟨aA,F.put _ _,Z⟩ ?_ ?_ ?_)
        ·exact aF
        ·exact aF
        ·exact aC
       ·obtain rfl:k=cs.length:=aA
        rw [List.take_length] at X;refine cN<|cO<|cO<|eC<|bO kh15<|aG fun kh21=>aB 1 rfl<|aD kh21<|aS fun kh22=>aG fun ap=>?_
        refine aB 1 rfl<|dU bX rfl<|aB 1 rfl<|aD ap<|aR ?_
        refine dA (α:=Nat×List (Int×Value×Nat)×Nat×List Pr×Value×Seg) [2,3,10,53,54] (fun ⟨k,ents,J,O,vo,Y⟩=>[(55,.int .i64 (k:Int)),(13,vo)]) (fun ⟨k,ents,J,O,vo,Y⟩=>[[(ax,e7 (fun x:Int=> .int .i64 x) ents J)],Y,[(b3,blk [.int .i64 (n:Int),.slice A l.length cap] 24)]]) (fun ⟨k,ents,J,O,vo,Y⟩=>k≤cs.length∧MOk ents J∧Tg cs k ents∧Own 215 2 vo O.length (O.flatMap fC) Y∧OutI n l most (cs.take k) O∧O.length≤k*8192) (fun ⟨k,ents,J,O,vo,Y⟩=>cs.length - k) (0,ents,J,[],.slice none 0 0,[]) ?_ ?_ ?_ ?_
        ·exact aF
        ·exact aC
        ·exact ⟨aA,F,⟨fun v hv=>by simp at hv,fun v hv _=>by obtain ⟨c,h1,h2,_⟩:=X.yes v hv;exact ⟨c,h1,h2⟩⟩,Own.nil _ _,fun p=>aN,aN⟩
        ·rintro ⟨k,ents,J,O,vo,Y⟩ ⟨ay,F,ac,hO,U,bM⟩;obtain ⟨Ao,co,rfl,bw⟩:=hO.val
         refine fF (e:=[(55,_),(13,_),(2,_),(3,_),(10,_),(53,_),(54,_)]) aF ?_;refine aG fun kh24=>aB 1 rfl<|aD kh24<|aS fun kh25=>aX rfl (fun bt=>?_) (fun bt=>?_)
         ·have hk:k<cs.length:=aA
          obtain ⟨bb,ob,rfl,ae,ab⟩:=hL (fun e=>by have:=a7 cs;rw [e] at this;simp at this;omega)
          have ar:=List.getElem_mem hk
          obtain ⟨c,hc,ah⟩:=ac.val ar
          have ad:=nc_zero (reg_zeroN (most:=most) hg (av _ ar) aA)
          refine bV kh25<|aS fun kh26=>aR<|aG fun kh27=>f_Q (aL bX rfl rfl (ob+k))<|f_Q (aH Tryz.isAgg3 rfl (d3 (enc:=(.int .i64 ·)) ae ab hk))<|aB 1 rfl<|aD kh27<|aS fun kh28=>aG fun kh29=>?_
          refine aB 2 rfl<|f_Q (fD kt201 Tryz.zeroValue3 rfl rfl rfl (.int .i64 c) hc)<|aB 1 rfl<|aD kh29<|aX rfl (fun c62=>?_) (fun c62=>?_)
          ·have ao:cs[k]∈cs.take k:=ah.1 aA
           refine cN<|cO<|eC<|bO kh26<|aI<|f_Q (a8 rfl rfl)<|aB 1 rfl<|aZ ?_
           refine cS (a6 (k+1,ents,J,O,_,Y) (by first|omega|(dsimp only;omega)|(simp;omega)) ⟨aA,F,ac.skip hk ao,hO,U.skip hk ao,aA⟩ ?_ ?_ ?_)
           ·exact aF
           ·exact aF
           ·exact aC
          ·refine bV kh28<|aG fun kh30=>aB 2 rfl<|f_Z (o_delete kt201 rfl rfl rfl ?_)
           refine aD kh30<|aG fun kh31=>f_Q (aO (vs:=[_,_]) Tryz.isAgg24 Tryz.sizeOf24 rfl rfl ⟨(rdA rfl),(rdA rfl),trivial⟩)<|aB 2 rfl ?_
           refine f_S (aV Tryz.call130 rfl (fun w_ hp_=>CutN_spec (n:Int) A l cap cs[k] most w_ (hr.up0 hp_) hl hN hok) ?_);rintro _ _ ⟨C,AC,cC,mC,rfl,rfl,br,_,bh⟩;rw [ad];have hC:=bh ad
           rw [Int.toNat_natCast] at hC;obtain ⟨bY,bD⟩:=nc_sub hC
           dsimp only [aK,aJ];refine aB 5 rfl<|aD kh31<|aS fun kh32=>aG fun aw=>aB 2 rfl<|aD aw<|dX rfl aN<|bV kh32<|aI<|aB 2 rfl ?_
           refine f_S (pF el154 rfl rfl hO (ys:=C.flatMap fC) (fun hne=>by
             obtain ⟨bC,b1,rfl,rfl⟩:=br.at_ (by rcases C with _|_;simp at hne;simp)
             exact ⟨bC,0,rfl,oO _ _ fun j v hj=>rdA (eF (by simpa using hj))⟩) (dO fC eY C) (prs_one C) aA aA ?_)
           rintro v77 bk ak;obtain ⟨bB,bK,rfl,_⟩:=ak.val
           refine aB 1 rfl<|aZ<|dF<|bO kh26<|aI<|f_Q (a8 rfl rfl)<|aB 1 rfl<|aZ ?_
           refine cS (a6 (k+1,mdel ents cs[k],J,O++C,_,bk) (by first|omega|(dsimp only;omega)|(simp;omega)) ⟨aA,F.del _,ac.del F.keys hk,by rw [List.flatMap_append,List.length_append];exact ak,U.add hk ad hC,by rw [List.length_append];have:=prs_few (n:=n) (l:=l) (fun a ha=>by obtain ⟨i,hi,rfl⟩:=List.mem_iff_getElem.1 ha;have:=bc i hi;omega);omega⟩ ?_ ?_ ?_)
           ·exact aF
           ·exact aF
           ·exact aC
         ·obtain rfl:k=cs.length:=aA
          rw [List.take_length] at U
          have al:∀ p∈O,POk p:=fun p hp=>by
            obtain ⟨v,_,C,hC,bq⟩:=(U p).1 hp
            have:=i6 ((nc_sub hC).1 p bq)
            unfold POk;omega
          refine cN<|cO<|cO<|eC<|bO kh22<|aG fun kh34=>aB 1 rfl ?_
          refine f_S (d4 [Y] _ Tryz.call131 rfl (by repeat (first|exact Sub.refl|refine aM ?_)) (fun w_ hp_=>SortPr_spec Ao co O Y w_ al hO aA hp_.owns) ?_);rintro _ _ ⟨rfl,m2,l2,rfl,am,a1,ba⟩;have bf:=am.length_eq
          rw [← bf];dsimp only [aK,aJ];refine aD kh34<|aG fun kh35=>aB 1 rfl ?_
          refine f_S (d4 [m2] _ Tryz.call134 rfl (by repeat (first|exact Sub.refl|refine aM ?_)) (fun w_ hp_=>CompactPr_spec Ao co l2 m2 w_ ba aA hp_.owns) ?_);rintro bW _ ⟨m3,rfl,ag⟩;obtain ⟨A3,c3,rfl,an⟩:=ag.val
          dsimp only [aK,aJ];refine f_S (aV Tryz.call133 rfl (fun w_ hp_=>ClipPr_spec A3 (cpt l2).length c3 w_ an.1 an.2 (j5 ag)) ?_);rintro _ _ ⟨rfl,rfl⟩;dsimp only [aK,aJ];refine aB 2 rfl<|aD kh35<|aY ?_
          have he:mkE (n:Int) l cs most=0:=by unfold mkE;rw [if_neg (by rw [hg];simp),if_neg aA,if_neg aA,if_neg (by rw [c37];simp)]
          have bi:(cpt l2).Pairwise ltX:=q8 (R:=ltX) (fun a b c h1 h2=>by unfold ltX at*;omega) (fun a b h e=>by subst e;unfold ltX at h;omega) a1
          exact cZ [m3] Tryz.results82 rfl rfl aC ⟨cpt l2,A3,c3,m3,by rw [he],rfl,ag,fun h=>absurd he h,fun _=>⟨bi,fun p=>by rw [oH,am.mem_iff,Int.toNat_natCast];exact U p⟩⟩
abbrev kB (F bx:Nat) (up:List Nat):List Seg:=[[(F,blk (k9 up) 3)],[(bx,blk [.slice (some ⟨F,0,none⟩) up.length up.length] 25)]]
theorem root_spec (O bx:Nat) (up:List Nat) (v:Nat) (w:World) (ho:Owns w (kB O bx up)) (hd:oV up) (hv:v<up.length) (hn:up.length≤1000000):
    Meets Tryz.prog 167 [.int .i64 (v:Int),.pointer (some ⟨bx,0,none⟩)] w (kB O bx up)
      (fun u own' =>u= .int .i64 (dC up v:Int)∧∃ F,own' =kB O bx F∧F.length=up.length∧oV F∧∀ x,dC F x=dC up x):=by
 refine bE Tryz.func167 rfl Tryz.ntmps167 rfl ho ?_
 unfold kB
 refine aG fun kh1=>aB 1 rfl<|aD kh1<|aS fun kh2=>aR ?_
 refine dA (α:=Nat×List Nat) [1] (fun ⟨v',F⟩=>[(0,.int .i64 (v' :Int))]) (fun ⟨v',F⟩=>[[(O,blk (k9 F) 3)],[(bx,blk [.slice (some ⟨O,0,none⟩) up.length up.length] 25)]]) (fun ⟨v',F⟩=>F.length=up.length∧v' <F.length∧oV F∧(∀ x,dC F x=dC up x)∧dC up v' =dC up v) (fun ⟨v',F⟩=>v') (v,up) ?_ ?_ ?_ ?_
 ·exact aF
 ·exact aC
 ·exact ⟨rfl,hv,hd,fun _=>rfl,rfl⟩
 ·rintro ⟨v',F⟩ ⟨hl',hv',hd',J,U⟩;have Z:=hd' v' hv'
  have h2:F[v']<F.length:=aA
  have Y:=hd' _ h2
  refine aS fun X=>aG fun kh4=>cX Tryz.isAgg25 rfl (rdA rfl)<|aB 1 rfl<|f_Q (aL bX rfl rfl (v'))<|f_Q (aH Tryz.isAgg3 rfl (rdA (nats_get hv')))<|aB 2 rfl<|aD kh4<|aX rfl (fun c9=>?_) (fun c9=>?_)
  ·refine bV X<|aR<|aS fun kh5=>gG 10 rfl aW<|gC Tryz.isAgg25 rfl (rdA rfl)<|dI 1 rfl<|gC Tryz.isAgg25 rfl (rdA rfl)<|gC Tryz.isAgg25 rfl (rdA rfl)<|dI 1 rfl<|dB (aL bX rfl rfl (v')) ?_
   refine dB (aH Tryz.isAgg3 rfl (rdA (nats_get hv')))<|dB (aL bX rfl rfl (F[v']))<|dB (aH Tryz.isAgg3 rfl (rdA (nats_get h2)))<|dB (aL bX rfl rfl (v'))<|eI (iX ?_)
   refine f_Z (bU Tryz.sizeOf3 rfl rfl rfl rfl (by rw [l1];omega) (k9 (F.set v' F[F[v']])) (nats_set _ _ _) ?_);refine aD kh5<|aI<|cX Tryz.isAgg25 rfl (rdA rfl)<|aB 1 rfl<|f_Q (aL bX rfl rfl (v'))<|f_Q (aH Tryz.isAgg3 rfl (rdA (nats_set_get hv')))<|aB 1 rfl<|aZ<|dF ?_
   refine cS (a6 (F[F[v']],F.set v' F[F[v']]) (by first|omega|(dsimp only;omega)|(simp;omega)) ⟨by simp [hl'],by simp;omega,down_halve hd' hv' h2,fun x=>by rw [rootOf_halve hd' hv' h2];exact J x,by rw [← U,← J,← J,rootOf_two hd' hv' h2]⟩ ?_ ?_ ?_)
   ·exact aF
   ·exact aF
   ·exact aC
  ·refine cN<|cO<|cO<|eC<|bO kh2<|aG fun kh6=>aB 2 rfl<|aD kh6<|aY ?_
   exact bJ (kB O bx F) Tryz.results167 rfl (by unfold kB;rw [hl'];exact Sub.refl) ⟨by rw [← U,← J,f5 hv' aA],F,rfl,hl',hd',J⟩
theorem Parts_spec (N:Int) (A:Option Addr) (l:List Arc) (cap:Nat) (w:World) (hr:Ro (Fr w []) w A (l.flatMap bZ)) (hl:l.length≤9223372036854775807) (hN:I64 N) (hok:∀ x∈l,eK x):
    Meets Tryz.prog 135 [.agg #[.int .i64 N,.slice A l.length cap]] w []
      (fun u own' =>if (cG N l).2=0 then ∃ p b,u= .tuple #[.slice (some ⟨b,0,none⟩) N.toNat N.toNat,.int .i64 0]∧own' =[[(b,blk (k9 p) 3)]]∧IsParts N.toNat (ends2 l) p
        else u= .tuple #[.slice none 0 0,.int .i64 (cG N l).2]∧own' =[]):=by
 refine bE Tryz.func135 rfl Tryz.ntmps135 rfl Owns.nil<|aG fun kh1=>f_S (cT rfl rfl fun b1=>?_)
 refine aB 2 rfl<|aD kh1<|aS fun kh2=>aG fun kh3=>f_Q (aO (vs:=[_,_]) Tryz.isAgg24 Tryz.sizeOf24 rfl rfl ⟨(rdA rfl),(rdA rfl),trivial⟩) ?_
 refine f_S (aV Tryz.call20 rfl (fun w_ O=>f3 N A l cap w_ (hr.up0 O) hl hN hok) ?_);rintro _ _ ⟨rfl,rfl⟩;dsimp only [aK,aJ];refine aB 5 rfl<|aD kh3<|aG fun kh4=>aB 2 rfl<|aD kh4<|aX rfl (fun c23=>?_) (fun c23=>?_)
 ·refine aG fun aq=>aB 3 rfl<|aD aq<|aY<|cV ?_
  exact cZ [] Tryz.results135 rfl rfl aP (by rw [if_neg (by simpa using c23)];exact ⟨rfl,rfl⟩)
 ·have ai:(cG N l).2=0:=by simpa using c23
  obtain ⟨ba,ay,hlen,U⟩:=bS ai
  obtain ⟨n,rfl⟩:∃ n:Nat,N=n:=⟨N.toNat,aA⟩
  clear c23;refine bV kh2<|aG fun kh6=>cL eT rfl<|cX Tryz.isAgg3 rfl (rdA rfl)<|f_S (eZ eL rfl rfl n rfl aA aA (k9 (List.replicate n 0)) (nats_replicate n) fun b27=>?_)
  refine f_S (cQ Tryz.zeroValue25 rfl fun Y=>?_);refine f_Z (bU Tryz.sizeOf25 rfl rfl rfl rfl cF _ rfl ?_);refine aD kh6<|aS fun kh7=>aG fun ao=>cX Tryz.isAgg25 rfl (rdA rfl)<|dU bX rfl<|aB 1 rfl<|aD ao<|aR ?_
  refine dA (α:=Nat×List Nat) [1,6,29] (fun ⟨k,up⟩=>[(30,.int .i64 (k:Int))]) (fun ⟨k,up⟩=>[[(b27,blk (k9 up) 3)],[(Y,blk [.slice (some ⟨b27,0,none⟩) n n] 25)],[(b1,blk [.int .i64 (n:Int),.slice A l.length cap] 24)]]) (fun ⟨k,up⟩=>k≤n∧up.length=n∧∀ j (h:j<up.length),j<k→up[j]=j) (fun ⟨k,up⟩=>n - k) (0,List.replicate n 0) ?_ ?_ ?_ ?_
  ·exact aF
  ·exact aC
  ·exact ⟨aA,aN,fun j _ h=>aA⟩
  ·rintro ⟨k,up⟩ ⟨au,hul,aa⟩;refine aG fun kh9=>aB 1 rfl<|aD kh9<|aS fun kh10=>aX rfl (fun av=>?_) (fun av=>?_)
   ·refine bV kh10<|aS fun kh11=>aR<|aG fun kh12=>aB 2 rfl<|aD kh12<|aI<|cX Tryz.isAgg25 rfl (rdA rfl)<|aB 2 rfl ?_
    have hk:k<n:=aA
    refine f_Q (aL bX rfl rfl (k))<|f_Z (bU Tryz.sizeOf3 rfl rfl rfl rfl (by rw [l1];omega) (k9 (up.set k k)) (nats_set _ _ _) ?_)
    refine aZ<|dF<|bO kh11<|aI<|f_Q (a8 rfl rfl)<|aB 1 rfl<|aZ ?_
    refine cS (a6 (k+1,up.set k k) (by first|omega|(dsimp only;omega)|(simp;omega)) ⟨aA,by simp [hul],fun j h hj=>by rw [List.getElem_set];split<;>first|assumption|exact aa j (by simpa using h) aA⟩ ?_ ?_ ?_)
    ·exact aF
    ·exact aF
    ·exact aC
   ·refine cN<|cO<|cO<|eC<|bO kh7<|aG fun kh13=>f_Q (kT rfl rfl)<|aB 1 rfl<|aD kh13<|aS fun kh14=>?_
    refine aG fun ae=>cL fT rfl<|cX Tryz.isAgg22 rfl (rdA rfl)<|dU jB rfl<|aB 1 rfl<|aD ae<|aR ?_
    refine dA (α:=Nat×List Nat) [1,6,8,40,41] (fun ⟨k,up⟩=>[(42,.int .i64 (k:Int))]) (fun ⟨k,up⟩=>[[(b27,blk (k9 up) 3)],[(Y,blk [.slice (some ⟨b27,0,none⟩) n n] 25)],[(b1,blk [.int .i64 (n:Int),.slice A l.length cap] 24)]]) (fun ⟨k,up⟩=>k≤l.length∧up.length=n∧oV up∧Tells up (ends2 (l.take k))) (fun ⟨k,up⟩=>l.length - k) (0,up) ?_ ?_ ?_ ?_
    ·exact aF
    ·exact aC
    ·exact ⟨aA,hul,by have:=up_range hul (fun j h=>aa j h aA);subst this;exact down_range n,by have:=up_range hul (fun j h=>aa j h aA);subst this;exact tells_start n⟩
    ·rintro ⟨k,up⟩ ⟨az,hul,hd,ht⟩;refine fF (e:=[(42,_),(1,_),(6,_),(8,_),(40,_),(41,_)]) aF ?_;refine aG fun kh16=>aB 1 rfl<|aD kh16<|aS fun kh17=>aX rfl (fun ar=>?_) (fun ar=>?_)
     ·refine bV kh17<|aS fun kh18=>aR<|aG fun kh19=>?_
      have hk:k<l.length:=aA
      obtain ⟨bl,off,rfl,hS,hc⟩:=hr (eX bZ dD aA hk)
      obtain ⟨be,a2,bf,ax⟩:=U k hk
      have ad:l[k].src.toNat<up.length:=aA
      have al:l[k].dst.toNat<up.length:=aA
      have ah:up.length≤1000000:=aA
      have aw:l[k].src=(l[k].src.toNat:Int):=aA
      have an:l[k].dst=(l[k].dst.toNat:Int):=aA
      refine f_Q (aL jB rfl rfl (off+k*3))<|f_Q (aO (vs:=bZ l[k]) Tryz.isAgg69 Tryz.sizeOf69 rfl rfl (f8 dD hS hc hk))<|f_S (cQ Tryz.zeroValue69 rfl fun b10=>?_)
      refine f_Z (bP Tryz.sizeOf69 rfl rfl rfl rfl cF _ rfl ?_);refine aD kh19<|aS fun kh20=>c7 [[(b10,blk (bZ l[k]) 69)]] rfl<|f_T 0 rfl (aU rfl)<|f_T 1 rfl (aT fY rfl)<|f_T 2 rfl (aH (v:= .int .i64 (l[k].src.toNat:Int)) Tryz.isAgg3 rfl (rdA (by rw [← aw];rfl))) ?_
      refine f_T 4 rfl (aU rfl)<|f_T 5 rfl (aT fO rfl)<|f_T 6 rfl (aH (v:= .int .i64 (l[k].dst.toNat:Int)) Tryz.isAgg3 rfl (rdA (by rw [← an];rfl))) ?_
      refine f_O 3 rfl (jG (kB b27 Y up) _ Tryz.call167 rfl rfl (by unfold kB;rw [hul];exact aM (aM Sub.refl)) (fun w_ O=>root_spec b27 Y up _ w_ O.owns hd ad ah) ?_);rintro _ _ ⟨rfl,X,rfl,hl1,Z,J⟩
      unfold kB
      rw [hl1,hul];dsimp only [aK,aJ];refine ⟨aC,?_⟩;refine f_O 7 rfl (jG (kB b27 Y X) _ Tryz.call167 rfl rfl (by unfold kB;rw [hl1,hul];exact aM (aM Sub.refl)) (fun w_ O=>root_spec b27 Y X _ w_ O.owns Z (hl1▸al) (hl1▸ah)) ?_);rintro _ _ ⟨rfl,ak,rfl,hl2,hd2,ap⟩
      unfold kB
      rw [hl2,hl1,hul];dsimp only [aK,aJ];refine ⟨aC,?_⟩;refine f_O 8 rfl ((bI rfl).does ⟨aC,?_⟩);refine f_O 9 rfl ((bI rfl).does ⟨aC,?_⟩);refine cU aW<|bO kh20<|aI<|cX Tryz.isAgg25 rfl (rdA rfl)<|aB 2 rfl<|f_Q (o_max rfl rfl)<|aB 2 rfl<|f_Q (o_min rfl rfl) ?_
      have e1:=J l[k].dst.toNat
      have q1:=pA (up:=up) l[k].src.toNat
      have q2:=pA (up:=up) l[k].dst.toNat
      refine f_Q (aL bX rfl rfl (max (dC up l[k].src.toNat) (dC up l[k].dst.toNat)))<|f_Z (bU Tryz.sizeOf3 rfl rfl rfl rfl (by rw [l1];omega) (k9 (ak.set (max (dC up l[k].src.toNat) (dC up l[k].dst.toNat)) (min (dC up l[k].src.toNat) (dC up l[k].dst.toNat)))) (by rw [← nats_set];congr 2;omega) ?_)
      refine aZ<|dF<|bO kh18<|aI<|f_Q (a8 rfl rfl)<|aB 1 rfl<|aZ ?_
      refine cS (a6 (k+1,ak.set (max (dC up l[k].src.toNat) (dC up l[k].dst.toNat)) (min (dC up l[k].src.toNat) (dC up l[k].dst.toNat))) (by first|omega|(dsimp only;omega)|(simp;omega)) ⟨aA,by simp [hl2,hl1,hul],down_join hd2,by rw [ends2_take hk];exact tells_next hd hd2 ht (hl2.trans hl1) (fun x=>(ap x).trans (J x)) (ends2_lt hul U k) ad al⟩ ?_ ?_ ?_)
      ·exact aF
      ·exact aF
      ·exact aC
     ·refine cN<|cO<|cO<|eC<|bO kh14<|aG fun kh21=>cL eT rfl<|cX Tryz.isAgg3 rfl (rdA rfl)<|f_S (eZ eL rfl rfl n rfl aA aA (k9 (List.replicate n 0)) (nats_replicate n) fun b65=>?_)
      refine aB 1 rfl<|aD kh21<|aG fun kh22=>aB 1 rfl<|aD kh22<|aS fun kh23=>aG fun aj=>aB 1 rfl<|dU bX rfl<|aB 1 rfl ?_
      refine aD aj<|aR ?_
      refine dA (α:=Nat×List Nat×List Nat×Nat) [8,13,67] (fun ⟨k,up,out,nx⟩=>[(68,.int .i64 (k:Int)),(14,.int .i64 (nx:Int))]) (fun ⟨k,up,out,nx⟩=>[[(b27,blk (k9 up) 3)],[(Y,blk [.slice (some ⟨b27,0,none⟩) n n] 25)],[(b1,blk [.int .i64 (n:Int),.slice A l.length cap] 24)],[(b65,blk (k9 out) 3)]]) (fun ⟨k,up,out,nx⟩=>k≤n∧up.length=n∧oV up∧Tells up (ends2 l)∧kA up k out nx) (fun ⟨k,up,out,nx⟩=>n - k) (0,up,List.replicate n 0,0) ?_ ?_ ?_ ?_
      ·exact aF
      ·exact aC
      ·exact ⟨aA,hul,hd,by rw [show l.take k=l from List.take_of_length_le aA] at ht;exact ht,by have:=labelled_start up;rw [hul] at this;exact this⟩
      ·rintro ⟨k,up,out,nx⟩ ⟨au,hul,hd,ht,F⟩;have a1:=F.len
       have bc:nx≤k:=by rw [← F.next];exact nxt_le out k
       refine fF (e:=[(68,_),(14,_),(8,_),(13,_),(67,_)]) aF ?_;refine aG fun kh25=>aB 1 rfl<|aD kh25<|aS fun kh26=>aX rfl (fun am=>?_) (fun am=>?_)
       ·refine bV kh26<|aS fun kh27=>aR<|aG fun kh28=>aB 2 rfl<|aD kh28<|aS fun kh29=>aG fun kh30=>aB 2 rfl ?_
        have ab:k<up.length:=aA
        refine f_S (jG (kB b27 Y up) _ Tryz.call167 rfl rfl (by unfold kB;rw [hul];exact aM (aM Sub.refl)) (fun w_ O=>root_spec b27 Y up k w_ O.owns hd ab aA) ?_);rintro _ _ ⟨rfl,X,rfl,hl1,Z,J⟩
        unfold kB
        rw [hl1,hul];dsimp only [aK,aJ];refine aB 1 rfl<|aD kh30<|aG fun kh31=>aB 3 rfl<|aD kh31<|aX rfl (fun c76=>?_) (fun c76=>?_)
        ·refine aG fun ac=>aB 4 rfl ?_;have ag:dC up k<out.length:=by have:=pA (up:=up) k;omega
         refine f_Q (aL bX rfl rfl (dC up k))<|f_Q (aH Tryz.isAgg3 rfl (rdA (nats_get ag)))<|f_Q (aL bX rfl rfl (k))<|f_Z (bU Tryz.sizeOf3 rfl rfl rfl rfl (by rw [l1];omega) (k9 (out.set k out[dC up k])) (nats_set _ _ _) ?_)
         refine aD ac<|cN<|cO<|eC<|bO kh27<|aI<|f_Q (a8 rfl rfl)<|aB 1 rfl<|aZ ?_
         refine cS (a6 (k+1,X,out.set k out[dC up k],nx) (by first|omega|(dsimp only;omega)|(simp;omega)) ⟨aA,hl1.trans hul,Z,tells_roots ht hl1 J,by exact labelled_roots (labelled_old hd F ab aA ag) hl1 J⟩ ?_ ?_ ?_)
         ·exact aF
         ·exact aF
         ·exact aC
        ·refine bV kh29<|aG fun kh33=>aB 3 rfl<|f_Q (aL bX rfl rfl (k))<|f_Z (bU Tryz.sizeOf3 rfl rfl rfl rfl (by rw [l1];omega) (k9 (out.set k nx)) (nats_set _ _ _) ?_)
         refine aD kh33<|aI<|aB 1 rfl<|f_Q (a8 rfl rfl)<|aB 1 rfl<|aZ<|dF<|bO kh27<|aI<|f_Q (a8 rfl rfl) ?_
         refine aB 1 rfl<|aZ ?_
         refine cS (a6 (k+1,X,out.set k nx,nx+1) (by first|omega|(dsimp only;omega)|(simp;omega)) ⟨aA,hl1.trans hul,Z,tells_roots ht hl1 J,by exact labelled_roots (labelled_new hd F ab aA) hl1 J⟩ ?_ ?_ ?_)
         ·exact aF
         ·exact aF
         ·exact aC
       ·refine cN<|cO<|cO<|eC<|bO kh23<|aG fun kh34=>aB 3 rfl<|aD kh34<|aY ?_
        exact cZ [[(b65,blk (k9 out) 3)]] Tryz.results135 rfl rfl (by repeat (first|exact aP|refine aM ?_|refine Sub.cast rfl ?_)) (by rw [if_pos ai];exact ⟨out,b65,rfl,rfl,parts_end hul F ht aA⟩)
theorem Meets.flatN {P:Program} {f:FuncId} {args:List Value} {w:World} {own:List Seg} {Φ F:Value→List Seg→Prop}
  (h:Meets P f args w own Φ) (hi:∀ v m,Φ v m→∃ m',F v m'∧m'.flatten=m.flatten):Meets P f args w own F:=
 Calls.mono h fun _ _ ⟨v,m,he,hp,hf⟩=>by
  obtain ⟨m',h1,h2⟩:=hi v m hf
  exact ⟨v,m',he,by rw [h2];exact hp,h1⟩
def natN (p:List Nat):List Int:=p.map fun x:Nat=>(x:Int)
theorem natN_len (p:List Nat):(natN p).length=p.length:=by simp [natN]
theorem natN_ints (p:List Nat):k9 p=bF (natN p):=by simp [k9,natN,bF]
def fE (N:Int):List Pr→Int
 |[]=>0
 |p::r=>if (p.1<0∨N≤p.1)∨p.2<0∨N≤p.2 then 5 else if p.2≤p.1 then 4 else fE N r
def l8 (N:Int) (l:List Arc) (M:List Pr):Int:=if (cG N l).2≠0 then (cG N l).2 else if 16384<M.length then 2 else fE N M
def nN (M:List Pr) (l:List Arc):List Arc:=l.filter fun a=> !decide (nH a∈M)
theorem fE_drop {N:Int} {M:List Pr} {k:Nat} (hk:k<M.length):fE N (M.drop k)=if (M[k].1<0∨N≤M[k].1)∨M[k].2<0∨N≤M[k].2 then 5 else if M[k].2≤M[k].1 then 4 else fE N (M.drop (k+1)):=by
 rw [← List.getElem_cons_drop hk];rfl
theorem u64_ge {x N:Int} (hx:I64 x) (F:I64 N) (J:0≤N):IntKind.u64.wrap N≤IntKind.u64.wrap x↔x<0∨N≤x:=by
 rw [nY hx,nY F]
 unfold I64 at hx F
 split<;>split<;>omega
structure MkI (ps:List Pr) (ents:List ((Int×Int)×Value×Nat)):Prop where
 yes:∀ q∈ps,∃ c:Int,eR ents q=some (.int .i64 c)∧1≤c∧c≤(ps.length:Int)
 no:∀ q,q∉ps→eR ents q=none
theorem MkI.nil:MkI [] [] where
 yes:=fun q hq=>by cases hq
 no:=fun q _=>rfl
theorem MkI.val {ps:List Pr} {ents:List ((Int×Int)×Value×Nat)} (h:MkI ps ents) (q:Pr):∃ c:Int,(eR ents q).getD (.int .i64 0)= .int .i64 c∧0≤c∧c≤(ps.length:Int)∧(c=0↔q∉ps):=by
 by_cases hq:q∈ps
 ·obtain ⟨c,h1,h2,h3⟩:=h.yes q hq
  exact ⟨c,by rw [h1];rfl,aA,h3,by constructor;intro e;omega;intro e;exact absurd hq e⟩
 ·exact ⟨0,by rw [h.no q hq];rfl,aA,aA,by simp [hq]⟩
theorem MkI.add {ps:List Pr} {ents:List ((Int×Int)×Value×Nat)} (h:MkI ps ents) {q:Pr} {c:Int} (hc:(eR ents q).getD (.int .i64 0)= .int .i64 c) (J:0≤c) (h1:c≤(ps.length:Int)) (k:Nat):MkI (ps++[q]) (fS ents q (.int .i64 (c+1)) k) where
 yes:=fun x hx=>by
  rw [jA]
  by_cases e:x=q
  ·rw [if_pos e];exact ⟨_,rfl,aA,by simp;omega⟩
  ·rw [if_neg e]
   rcases List.mem_append.1 hx with hx|hx
   ·obtain ⟨d,h2,h3,F⟩:=h.yes x hx
    exact ⟨d,h2,h3,by simp;omega⟩
   ·exact absurd (List.mem_singleton.1 hx) e
 no:=fun x hx=>by
  rw [jA,if_neg (fun e=>hx (by simp [e]))];exact h.no x fun hm=>hx (by simp [hm])
theorem mget_appN {α:Type} [DecidableEq α] (x:α) (z:Value) (c:Nat):∀ l:List (α×Value×Nat),eR l x=none→eR (l++[(x,z,c)]) x=some z
 |[],_=>by simp [eR]
 |e::r,h=>by
  unfold eR at h
  split at h
  ·cases h
  ·rename_i hne
   rw [List.cons_append];unfold eR;rw [if_neg hne];exact mget_appN x z c r h
theorem ment_valN {α:Type} [DecidableEq α] (l:List (α×Value×Nat)) (x:α) (z:Value) (c:Nat):(eR (nX l x z c) x).getD z=(eR l x).getD z:=by
 unfold nX
 split
 ·rfl
 ·rename_i h
  have h' :eR l x=none:=by cases hg:eR l x with
   |none=>rfl
   |some v=>rw [hg] at h;simp at h
  rw [mget_appN x z c l h',h'];rfl
theorem keepA_yes {M:List Pr} {l:List Arc} {i:Nat} (hi:i<l.length) (h:nH l[i]∉M):nN M (l.take (i+1))=nN M (l.take i)++[l[i]]:=by
 unfold nN;rw [List.take_succ_eq_append_getElem hi,List.filter_append];simp [h]
theorem keepA_no {M:List Pr} {l:List Arc} {i:Nat} (hi:i<l.length) (h:nH l[i]∈M):nN M (l.take (i+1))=nN M (l.take i):=by
 unfold nN;rw [List.take_succ_eq_append_getElem hi,List.filter_append];simp [h]
theorem keepA_len (M:List Pr) (l:List Arc):(nN M l).length≤l.length:=List.length_filter_le _ _
theorem keepA_good {n:Nat} {l:List Arc} (hg:(cG (n:Int) l).2=0) (M:List Pr):(cG (n:Int) (nN M l)).2=0:=by
 obtain ⟨h1,h2,h3,F⟩:=bS hg
 rw [gcheck_ok ⟨aA,aA⟩ (by have:=keepA_len M l;omega) fun j hj=>?_];have hm:=(List.mem_filter.1 (List.getElem_mem hj)).1
 obtain ⟨i,hi,e⟩:=List.mem_iff_getElem.1 hm
 have:=F i hi
 rw [e] at this
 unfold gB;simp;omega
theorem keepA_ok {l:List Arc} (M:List Pr) (hok:∀ x∈l,eK x):∀ x∈nN M l,eK x:=fun x hx=>hok x (List.mem_filter.1 hx).1
theorem PartsN_spec (N:Int) (A:Option Addr) (l:List Arc) (cap:Nat) (w:World) (hr:Ro (Fr w []) w A (l.flatMap bZ)) (hl:l.length≤9223372036854775807) (F:I64 N) (hok:∀ x∈l,eK x):
  Meets Tryz.prog 135 [.agg #[.int .i64 N,.slice A l.length cap]] w [] (fun u own' =>∃ (P:List Int) (A' :Option Addr) (c:Nat) (m' :Seg),u= .tuple #[.slice A' P.length c,.int .i64 (cG N l).2]∧own' =[m']∧Own 3 1 (.slice A' P.length c) P.length (bF P) m'∧((cG N l).2=0→∃ p,P=natN p∧IsParts N.toNat (ends2 l) p)∧((cG N l).2≠0→P=[])):=by
 refine Meets.flatN (Parts_spec N A l cap w hr hl F hok) fun v m h=>?_
 by_cases hg:(cG N l).2=0
 ·rw [if_pos hg] at h
  obtain ⟨p,b,rfl,rfl,hp⟩:=h
  have hlen:(natN p).length=N.toNat:=by rw [natN_len,hp.len]
  have hb:=bS hg
  refine ⟨_,⟨natN p,some ⟨b,0,none⟩,N.toNat,[(b,blk (k9 p) 3)],by rw [hlen,hg],rfl,?_,fun _=>⟨p,rfl,hp⟩,fun h=>absurd hg h⟩,rfl⟩;rw [natN_ints,hlen];exact Own.mk (by rw [a7,hlen];omega) aA
 ·rw [if_neg hg] at h
  obtain ⟨rfl,rfl⟩:=h
  exact ⟨[[]],⟨[],none,0,[],rfl,rfl,Own.nil _ _,fun h=>absurd h hg,fun _=>rfl⟩,rfl⟩
theorem Fragments_spec (N:Int) (A B:Option Addr) (l:List Arc) (cap:Nat) (M:List Pr) (cb:Nat) (w:World) (hr:Ro (Fr w []) w A (l.flatMap bZ)) (hl:l.length≤9223372036854775807) (hN:I64 N) (hok:∀ x∈l,eK x) (hM:Ro (Fr w []) w B (M.flatMap fC)) (hm:M.length≤9223372036854775807) (aq:∀ p∈M,I64 p.1∧I64 p.2):
    Meets Tryz.prog 83 [.agg #[.int .i64 N,.slice A l.length cap],.slice B M.length cb] w [] (fun u own' =>∃ (P:List Int) (A' :Option Addr) (c:Nat) (m' :Seg),u= .tuple #[.slice A' P.length c,.int .i64 (l8 N l M)]∧own' =[m']∧Own 3 1 (.slice A' P.length c) P.length (bF P) m'∧(l8 N l M=0→∃ p,P=natN p∧IsParts N.toNat (ends2 (nN M l)) p)∧(l8 N l M≠0→P=[])):=by
 refine bE Tryz.func83 rfl Tryz.ntmps83 rfl Owns.nil<|aG fun kh1=>f_S (cT rfl rfl fun b2=>?_)
 refine aB 2 rfl<|aD kh1<|aS fun kh2=>aG fun kh3=>f_Q (aO (vs:=[_,_]) Tryz.isAgg24 Tryz.sizeOf24 rfl rfl ⟨(rdA rfl),(rdA rfl),trivial⟩) ?_
 refine f_S (aV Tryz.call20 rfl (fun w_ ae=>f3 N A l cap w_ (hr.up0 ae) hl hN hok) ?_);rintro _ _ ⟨rfl,rfl⟩;dsimp only [aK,aJ];refine aB 5 rfl<|aD kh3<|aG fun kh4=>aB 2 rfl<|aD kh4<|aX rfl (fun c20=>?_) (fun c20=>?_)
 ·refine aG fun a2=>aB 3 rfl<|aD a2<|aY<|cV ?_
  have aa:(cG N l).2≠0:=by simpa using c20
  have F:l8 N l M=(cG N l).2:=by unfold l8;rw [if_pos aa]
  exact cZ [[]] Tryz.results83 rfl rfl (show Fly.Sub _ [[]] from aC) ⟨[],none,0,[],by rw [F];rfl,rfl,Own.nil _ _,fun h=>absurd (F.symm.trans h) aa,fun _=>rfl⟩
 ·have hg:(cG N l).2=0:=by simpa using c20
  obtain ⟨bw,bu,bC,bq⟩:=bS hg
  obtain ⟨n,rfl⟩:∃ n:Nat,N=(n:Int):=⟨N.toNat,aA⟩
  refine bV kh2<|aS fun kh6=>aG fun kh7=>aB 1 rfl<|dU h7 rfl<|aB 1 rfl<|aD kh7<|aX rfl (fun c24=>?_) (fun c24=>?_)
  ·refine aG fun az=>aB 2 rfl<|aD az<|aY<|cV ?_
   have F:l8 (n:Int) l M=2:=by unfold l8;rw [if_neg (by rw [hg];simp),if_pos aA]
   exact cZ [[]] Tryz.results83 rfl rfl (show Fly.Sub _ [[]] from aC) ⟨[],none,0,[],by rw [F];rfl,rfl,Own.nil _ _,fun h=>absurd (F.symm.trans h) (by decide),fun _=>rfl⟩
  ·refine bV kh6<|aG fun kh9=>f_S (iU fun ag=>?_)
   refine aB 1 rfl<|aD kh9<|aS fun kh10=>aG fun al=>aB 1 rfl<|dU h7 rfl<|aB 1 rfl<|aD al<|aR ?_
   refine dA (α:=Nat×List ((Int×Int)×Value×Nat)×Nat) [2,8,26,27] (fun ⟨k,ents,O⟩=>[(28,.int .i64 (k:Int))]) (fun ⟨k,ents,O⟩=>[[(ag,e7 oS ents O)],[(b2,blk [.int .i64 (n:Int),.slice A l.length cap] 24)]]) (fun ⟨k,ents,O⟩=>k≤M.length∧MOk ents O∧MkI (M.take k) ents∧fE (n:Int) M=fE (n:Int) (M.drop k)) (fun ⟨k,ents,O⟩=>M.length - k) (0,[],0) ?_ ?_ ?_ ?_
   ·exact aF
   ·exact aC
   ·exact ⟨aA,MOk.nil,MkI.nil,rfl⟩
   ·rintro ⟨k,ents,O⟩ ⟨bk,J,Z,F⟩;refine aG fun kh12=>aB 1 rfl<|aD kh12<|aS fun kh13=>aX rfl (fun ba=>?_) (fun ba=>?_)
    ·have hk:k<M.length:=aA
     obtain ⟨bp,op,rfl,bf,ar⟩:=hM (eX fC eY aA hk)
     have ap:=aq _ (List.getElem_mem hk)
     have bB:=u64_ge ap.1 hN aA
     have bt:=u64_ge ap.2 hN aA
     have X:=fE_drop (N:=(n:Int)) hk
     obtain ⟨c,hc,an,ab,_⟩:=Z.val M[k]
     have ax:M.take (k+1)=M.take k++[M[k]]:=List.take_succ_eq_append_getElem hk
     have bi:(M.take k).length=k:=by rw [List.length_take];omega
     have U:=Z.add hc an ab O
     rw [← ax] at U;rw [bi] at ab;refine bV kh13<|aS fun kh14=>aR<|aG fun kh15=>f_Q (aL h7 rfl rfl (op+k*2))<|f_Q (aO (vs:=fC M[k]) Tryz.isAgg215 Tryz.sizeOf215 rfl rfl (f8 eY bf ar hk))<|f_S (cQ Tryz.zeroValue215 rfl fun b10=>?_)
     refine f_Z (bP Tryz.sizeOf215 rfl rfl rfl rfl cF (fC M[k]) rfl ?_);refine aD kh15<|aS fun kh16=>aR<|aG fun kh17=>cL lS rfl<|cX Tryz.isAgg3 rfl (rdA rfl)<|f_Q (g5 Tryz.runUnderlying3 Tryz.runUnderlying118 rfl _ rfl) ?_
     refine cL eT rfl<|cX Tryz.isAgg3 rfl (rdA rfl)<|f_Q (g5 Tryz.runUnderlying3 Tryz.runUnderlying118 rfl _ rfl) ?_
     refine aB 2 rfl<|d8 40 rfl (fun g40=>?_) (fun g40=>?_)
     ·refine aB 9 rfl<|aD kh17<|fI rfl<|aG fun kh18=>aB 2 rfl<|aD kh18<|aY<|fA<|cV<|fA ?_
      refine cV<|cV<|fA<|cV ?_
      have F:l8 (n:Int) l M=5:=by unfold l8;rw [if_neg (by rw [hg];simp),if_neg aA,F,X,if_pos aA]
      exact cZ [[]] Tryz.results83 rfl rfl (show Fly.Sub _ [[]] from aC) ⟨[],none,0,[],by rw [F];rfl,rfl,Own.nil _ _,fun h=>absurd (F.symm.trans h) (by decide),fun _=>rfl⟩
     ·refine eA rfl rfl (aT oF rfl)<|eA rfl rfl (aH Tryz.isAgg3 rfl (rdA rfl))<|eA rfl rfl (g5 Tryz.runUnderlying3 Tryz.runUnderlying118 rfl _ rfl) ?_;refine eA rfl rfl (aT eT rfl)<|eA rfl rfl (aH Tryz.isAgg3 rfl (rdA rfl))<|eA rfl rfl (g5 Tryz.runUnderlying3 Tryz.runUnderlying118 rfl _ rfl) ?_;refine aB 3 rfl<|aD kh17<|aX rfl (fun c32=>?_) (fun c32=>?_)
      ·refine aG fun ai=>aB 2 rfl<|aD ai<|aY<|fA<|cV<|fA<|cV<|cV<|fA ?_
       refine cV ?_;have F:l8 (n:Int) l M=5:=by unfold l8;rw [if_neg (by rw [hg];simp),if_neg aA,F,X,if_pos aA]
       exact cZ [[]] Tryz.results83 rfl rfl (show Fly.Sub _ [[]] from aC) ⟨[],none,0,[],by rw [F];rfl,rfl,Own.nil _ _,fun h=>absurd (F.symm.trans h) (by decide),fun _=>rfl⟩
      ·refine aG fun kh20=>cL lS rfl<|cX Tryz.isAgg3 rfl (rdA rfl)<|cL oF rfl<|cX Tryz.isAgg3 rfl (rdA rfl)<|aB 2 rfl<|aD kh20<|aX rfl (fun c49=>?_) (fun c49=>?_)
       ·refine aG fun ah=>aB 2 rfl<|aD ah<|aY<|fA<|cV<|fA<|cV<|cV<|fA ?_
        refine cV ?_;have F:l8 (n:Int) l M=4:=by unfold l8;rw [if_neg (by rw [hg];simp),if_neg aA,F,X,if_neg aA,if_pos aA]
        exact cZ [[]] Tryz.results83 rfl rfl (show Fly.Sub _ [[]] from aC) ⟨[],none,0,[],by rw [F];rfl,rfl,Own.nil _ _,fun h=>absurd (F.symm.trans h) (by decide),fun _=>rfl⟩
       ·refine dY<|dF<|bO kh16<|c7 [[(b10,blk [.int .i64 M[k].1,.int .i64 M[k].2] 215)]] rfl<|f_T 0 rfl (aU rfl)<|f_T 1 rfl (aO (vs:=fC M[k]) Tryz.isAgg215 Tryz.sizeOf215 rfl rfl ⟨(rdA rfl),(rdA rfl),trivial⟩)<|gH 2 4 rfl rfl aW rfl rfl rfl rfl rfl rfl ?_ ?_
        ·refine (fD kt218 Tryz.zeroValue3 rfl rfl rfl (key:=M[k]) (.int .i64 c) (by first|exact hc|exact (ment_valN _ _ _ _).trans hc)).does ⟨aC,?_⟩;refine f_T 3 rfl (a8 rfl rfl)<|f_O 4 rfl (qJ kt218 Tryz.zeroValue3 rfl rfl rfl (key:=M[k]) _ rfl ⟨aC,?_⟩)
         refine f_T 5 rfl (eU rfl rfl)<|fZ 6 rfl (mT (key:=M[k]) J rfl rfl rfl ⟨aC,?_⟩)
         refine cU aW<|dF<|bO kh14<|aI<|f_Q (a8 rfl rfl)<|aB 1 rfl<|aZ ?_
         refine cS (a6 (k+1,fS ents M[k] (.int .i64 (c+1)) O,fK ents M[k] O) (by first|omega|(dsimp only;omega)|(simp;omega)) ⟨aA,J.put _ _,U,F.trans (X.trans (by rw [if_neg aA,if_neg aA]))⟩ ?_ ?_ ?_)
         ·exact aF
         ·exact aF
         ·exact aC
        ·refine (qJ kt218 Tryz.zeroValue3 rfl rfl rfl (key:=M[k]) _ rfl ⟨aC,?_⟩);refine f_T 5 rfl (eU rfl rfl)<|f_O 2 rfl ((fD kt218 Tryz.zeroValue3 rfl rfl rfl (key:=M[k]) (.int .i64 c) (by first|exact hc|exact (ment_valN _ _ _ _).trans hc)).does ⟨aC,?_⟩)
         refine f_T 3 rfl (a8 rfl rfl)<|fZ 6 rfl (mT (key:=M[k]) J rfl rfl rfl ⟨aC,?_⟩)
         refine cU aW<|dF<|bO kh14<|aI<|f_Q (a8 rfl rfl)<|aB 1 rfl<|aZ ?_
         refine cS (a6 (k+1,fS ents M[k] (.int .i64 (c+1)) O,fK ents M[k] O) (by first|omega|(dsimp only;omega)|(simp;omega)) ⟨aA,J.put _ _,U,F.trans (X.trans (by rw [if_neg aA,if_neg aA]))⟩ ?_ ?_ ?_)
         ·exact aF
         ·exact aF
         ·exact aC
    ·obtain rfl:k=M.length:=aA
     rw [List.take_length] at Z;rw [List.drop_length] at F;have aj:l8 (n:Int) l M=0:=by unfold l8;rw [if_neg (by rw [hg];simp),if_neg aA,F];rfl
     refine cN<|cO<|cO<|eC<|bO kh10<|aG fun kh22=>cL eT rfl<|cX Tryz.isAgg3 rfl (rdA rfl)<|f_Q (dL (cs:=[.int .i64 (n:Int),.slice none 0 0]) st24 rfl rfl)<|f_S (cQ Tryz.zeroValue24 rfl fun b11=>?_)
     refine f_Z (bP Tryz.sizeOf24 rfl rfl rfl rfl cF [.int .i64 (n:Int),.slice none 0 0] rfl ?_);refine aD kh22<|aS fun kh23=>aG fun ao=>cL fT rfl<|cX Tryz.isAgg22 rfl (rdA rfl)<|dU jB rfl<|aB 1 rfl<|aD ao<|aR ?_
     refine dA (α:=Nat×Value×Seg) [8,11,66,67] (fun ⟨i,sa,ma⟩=>[(68,.int .i64 (i:Int))]) (fun ⟨i,sa,ma⟩=>[[(b11,blk [.int .i64 (n:Int),sa] 24)],ma,[(ag,e7 oS ents O)]]) (fun ⟨i,sa,ma⟩=>i≤l.length∧Own 69 3 sa (nN M (l.take i)).length ((nN M (l.take i)).flatMap bZ) ma) (fun ⟨i,sa,ma⟩=>l.length - i) (0,.slice none 0 0,[]) ?_ ?_ ?_ ?_
     ·exact aF
     ·exact aC
     ·exact ⟨aA,Own.nil _ _⟩
     ·rintro ⟨i,sa,ma⟩ ⟨bv,hO⟩;have ak:=keepA_len M (l.take i)
      rw [List.length_take] at ak;obtain ⟨bh,bc,rfl,bj⟩:=hO.val
      refine fF (e:=[(68,_),(8,_),(11,_),(66,_),(67,_)]) aF ?_;refine aG fun kh25=>aB 1 rfl<|aD kh25<|aS fun kh26=>aX rfl (fun aw=>?_) (fun aw=>?_)
      ·have hi:i<l.length:=aA
       obtain ⟨bl,off,rfl,hS,ay⟩:=hr (eX bZ dD aA hi)
       obtain ⟨c,hc,an,ab,Y⟩:=Z.val (nH l[i])
       refine bV kh26<|aS fun kh27=>aR<|aG fun kh28=>f_Q (aL jB rfl rfl (off+i*3))<|f_Q (aO (vs:=bZ l[i]) Tryz.isAgg69 Tryz.sizeOf69 rfl rfl (f8 dD hS ay hi))<|f_S (cQ Tryz.zeroValue69 rfl fun b13=>?_)
       refine f_Z (bP Tryz.sizeOf69 rfl rfl rfl rfl cF (bZ l[i]) rfl ?_);refine aD kh28<|aG fun kh29=>aB 1 rfl<|cL fY rfl<|cX Tryz.isAgg3 rfl (rdA rfl)<|cL fO rfl<|cX Tryz.isAgg3 rfl (rdA rfl)<|f_Q (o_min rfl rfl)<|cL fY rfl<|cX Tryz.isAgg3 rfl (rdA rfl) ?_
       refine cL fO rfl<|cX Tryz.isAgg3 rfl (rdA rfl)<|f_Q (o_max rfl rfl)<|f_Q (dL (cs:=[.int .i64 (min l[i].src l[i].dst),.int .i64 (max l[i].src l[i].dst)]) st215 rfl rfl)<|f_Q (fD kt218 Tryz.zeroValue3 rfl rfl rfl (key:=nH l[i]) (.int .i64 c) hc)<|aB 1 rfl<|aD kh29<|aX rfl (fun c85=>?_) (fun c85=>?_)
       ·have ad:nH l[i]∉M:=Y.1 (by simpa using c85)
        have ac:=keepA_yes hi ad
        refine aI<|cL fT rfl<|cX Tryz.isAgg22 rfl (rdA rfl)<|f_Q (aO (vs:=[_,_,_]) Tryz.isAgg69 Tryz.sizeOf69 rfl rfl ⟨(rdA rfl),(rdA rfl),(rdA rfl),trivial⟩)<|f_S (bQ el22 aA rfl rfl rfl fun b89=>?_)
        refine f_S (dE el22 rfl rfl hO (ys:=bZ l[i]) ⟨(rdA rfl),(rdA rfl),(rdA rfl),trivial⟩ rfl rfl aA aA fun br bg am=>?_);obtain ⟨be,a1,rfl,_⟩:=am.val
        refine cL fT rfl<|f_Z (bU Tryz.sizeOf22 rfl rfl rfl rfl cF [.int .i64 (n:Int),.slice be ((nN M (l.take i)).length+1) a1] rfl ?_)
        refine aZ<|dF<|bO kh27<|aI<|f_Q (a8 rfl rfl)<|aB 1 rfl<|aZ ?_
        refine cS (a6 (i+1,_,bg) (by first|omega|(dsimp only;omega)|(simp;omega)) ⟨aA,by rw [ac,List.flatMap_append,List.length_append];simpa using am⟩ ?_ ?_ ?_)
        ·exact aF
        ·exact aF
        ·exact aC
       ·have ad:nH l[i]∈M:=Classical.byContradiction fun h=>absurd (Y.2 h) (by simpa using c85)
        have ac:=keepA_no hi ad
        refine dY<|dF<|bO kh27<|aI<|f_Q (a8 rfl rfl)<|aB 1 rfl<|aZ ?_
        refine cS (a6 (i+1,_,ma) (by first|omega|(dsimp only;omega)|(simp;omega)) ⟨aA,by rw [ac];exact hO⟩ ?_ ?_ ?_)
        ·exact aF
        ·exact aF
        ·exact aC
      ·obtain rfl:i=l.length:=aA
       rw [List.take_length] at hO ⊢;refine cN<|cO<|cO<|eC<|bO kh23<|aG fun kh30=>f_Q (aO (vs:=[_,_]) Tryz.isAgg24 Tryz.sizeOf24 rfl rfl ⟨(rdA rfl),(rdA rfl),trivial⟩) ?_
       refine f_S (aV Tryz.call135 rfl (fun w_ ae=>PartsN_spec (n:Int) bh (nN M l) bc w_ (eS (hO.seen ae)) (by have:=keepA_len M l;omega) hN (keepA_ok M hok)) ?_);rintro _ _ ⟨P,AP,cP,mP,rfl,rfl,au,av,_⟩;rw [keepA_good hg M];dsimp only [aK,aJ];refine aB 4 rfl<|aD kh30<|aY ?_
       exact cZ [mP] Tryz.results83 rfl rfl aC ⟨P,AP,cP,mP,by rw [aj],rfl,au,fun _=>av (keepA_good hg M),fun h=>absurd aj h⟩
theorem mput_len {α:Type} [DecidableEq α] (x:α) (v:Value) (c:Nat):∀ l:List (α×Value×Nat),(fS l x v c).length≤l.length+1
 |[]=>by simp [fS]
 |e::r=>by
  have:=mput_len x v c r
  unfold fS;split
  ·simp
  ·simp;omega
theorem mget_mem {α:Type} [DecidableEq α] {e:α×Value×Nat}:∀ {l:List (α×Value×Nat)},(l.map (·.1)).Nodup→e∈l→eR l e.1=some e.2.1
 |f::l,hn,h=>by
  rw [List.map_cons,List.nodup_cons] at hn
  rcases List.mem_cons.1 h with rfl|h
  ·simp [eR]
  ·unfold eR
   rw [if_neg (fun e' =>hn.1 (by rw [← e'];exact List.mem_map.2 ⟨e,h,rfl⟩))];exact mget_mem hn.2 h
theorem mget_app {α:Type} [DecidableEq α] (x:α) (z:Value) (c:Nat):∀ l:List (α×Value×Nat),eR l x=none→eR (l++[(x,z,c)]) x=some z
 |[],_=>by simp [eR]
 |e::r,h=>by
  unfold eR at h
  split at h
  ·cases h
  ·rename_i hne
   rw [List.cons_append];unfold eR;rw [if_neg hne];exact mget_app x z c r h
theorem ment_val {α:Type} [DecidableEq α] (l:List (α×Value×Nat)) (x:α) (z:Value) (c:Nat):(eR (nX l x z c) x).getD z=(eR l x).getD z:=by
 unfold nX
 split
 ·rfl
 ·rename_i h
  have h' :eR l x=none:=by cases hg:eR l x with
   |none=>rfl
   |some v=>rw [hg] at h;simp at h
  rw [mget_app x z c l h',h'];rfl
def mL (L:List Int) (p:Pr):Int×Int:=(min (lab L p.1) (lab L p.2),max (lab L p.1) (lab L p.2))
def okP (L:List Int) (bd:Int) (p:Pr):Bool:=decide (lab L p.1≠lab L p.2∧(gK L (lab L p.1):Int)+gK L (lab L p.2)≤bd)
def cntK (ps:List Pr) (L:List Int) (k:Int×Int):Nat:=(ps.filter fun p=>decide (mL L p=k)).length
def smL (ps:List Pr) (L:List Int) (bd:Int):List Sm:=(ps.filter (okP L bd)).map fun p=>((mL L p).1,(mL L p).2,(cntK ps L (mL L p):Int))
theorem okP_same {L:List Int} {bd:Int} {p q:Pr} (h:okP L bd p=true) (e:mL L p=mL L q):okP L bd q=true:=by
 unfold okP at h ⊢
 unfold mL at e
 simp only [decide_eq_true_eq,Prod.mk.injEq] at h e ⊢;have:(lab L q.1=lab L p.1∧lab L q.2=lab L p.2)∨(lab L q.1=lab L p.2∧lab L q.2=lab L p.1):=aA
 rcases this with ⟨e1,e2⟩|⟨e1,e2⟩
 ·rw [e1,e2];exact h
 ·rw [e1,e2];exact ⟨fun e=>h.1 e.symm,aA⟩
theorem cntK_le (ps:List Pr) (L:List Int) (k:Int×Int):cntK ps L k≤ps.length:=List.length_filter_le _ _
theorem cntK_add (ps:List Pr) (L:List Int) (p:Pr) (k:Int×Int):cntK (ps++[p]) L k=cntK ps L k+if mL L p=k then 1 else 0:=by
 unfold cntK;rw [List.filter_append,List.length_append]
 congr 1
 by_cases h:mL L p=k
 ·simp [h]
 ·simp [h]
structure SM (ps:List Pr) (L:List Int) (bd:Int) (ents:List ((Int×Int)×Value×Nat)):Prop where
 one:∀ k v,eR ents k=some v→v= .int .i64 (cntK ps L k:Int)∧∃ p∈ps,okP L bd p=true∧mL L p=k
 all:∀ p∈ps,okP L bd p=true→eR ents (mL L p)≠none
 few:ents.length≤ps.length
theorem SM.nil (L:List Int) (bd:Int):SM [] L bd [] where
 one:=fun k v h=>by simp [eR] at h
 all:=fun p hp=>by cases hp
 few:=Nat.le_refl _
theorem SM.val {ps:List Pr} {L:List Int} {bd:Int} {ents:List ((Int×Int)×Value×Nat)} (h:SM ps L bd ents) {p:Pr} (hp:okP L bd p=true):(eR ents (mL L p)).getD (.int .i64 0)= .int .i64 (cntK ps L (mL L p):Int):=by
 cases hg:eR ents (mL L p) with
 |some v=>exact (h.one _ _ hg).1
 |none=>
  have:cntK ps L (mL L p)=0:=by
   unfold cntK
   rw [List.length_eq_zero_iff,List.filter_eq_nil_iff];intro q hq e;simp only [decide_eq_true_eq] at e;exact h.all q hq (okP_same hp e.symm) (by rw [e];exact hg)
  rw [this];rfl
theorem SM.add {ps:List Pr} {L:List Int} {bd:Int} {ents:List ((Int×Int)×Value×Nat)} (h:SM ps L bd ents) {p:Pr} (hp:okP L bd p=true) (k:Nat):
  SM (ps++[p]) L bd (fS ents (mL L p) (.int .i64 ((cntK ps L (mL L p):Int)+1)) k) where
 one:=fun q v hg=>by
  rw [jA] at hg;rw [cntK_add]
  by_cases e:q=mL L p
  ·subst e
   rw [if_pos rfl] at hg;cases hg
   exact ⟨by rw [if_pos rfl];rfl,p,aN,hp,rfl⟩
  ·rw [if_neg e] at hg
   obtain ⟨h1,r,hr,h2⟩:=h.one q v hg
   exact ⟨by rw [if_neg (fun e' =>e e'.symm),Nat.add_zero];exact h1,r,by simp [hr],h2⟩
 all:=fun q hq ho=>by
  rw [jA]
  split
  ·simp
  ·rename_i hne
   rcases List.mem_append.1 hq with hq|hq
   ·exact h.all q hq ho
   ·obtain rfl:=List.mem_singleton.1 hq;exact absurd rfl hne
 few:=by have:=mput_len (mL L p) (.int .i64 ((cntK ps L (mL L p):Int)+1)) k ents;have:=h.few;simp;omega
theorem SM.skip {ps:List Pr} {L:List Int} {bd:Int} {ents:List ((Int×Int)×Value×Nat)} (h:SM ps L bd ents) {p:Pr} (hp:¬ okP L bd p=true):SM (ps++[p]) L bd ents where
 one:=fun q v hg=>by
  obtain ⟨h1,r,hr,h2,h3⟩:=h.one q v hg
  rw [cntK_add,if_neg (fun e=>hp (okP_same h2 (h3.trans e.symm))),Nat.add_zero];exact ⟨h1,r,by simp [hr],h2,h3⟩
 all:=fun q hq ho=>by
  rcases List.mem_append.1 hq with hq|hq
  ·exact h.all q hq ho
  ·obtain rfl:=List.mem_singleton.1 hq;exact absurd ho hp
 few:=by have:=h.few;simp;omega
theorem mem_smL {ps:List Pr} {L:List Int} {bd:Int} {s:Sm}:s∈smL ps L bd↔∃ p∈ps,okP L bd p=true∧mL L p=(s.1,s.2.1)∧s.2.2=(cntK ps L (s.1,s.2.1):Int):=by
 unfold smL
 rw [List.mem_map];constructor
 ·rintro ⟨p,hp,rfl⟩
  obtain ⟨h1,h2⟩:=List.mem_filter.1 hp
  exact ⟨p,h1,h2,rfl,rfl⟩
 ·rintro ⟨p,hp,ho,e,e2⟩
  refine ⟨p,List.mem_filter.2 ⟨hp,ho⟩,?_⟩;rw [e,← e2]
theorem SM.ent {ps:List Pr} {L:List Int} {bd:Int} {ents:List ((Int×Int)×Value×Nat)} {F:Nat} (h:SM ps L bd ents) (hm:MOk ents F) {e:(Int×Int)×Value×Nat} (he:e∈ents):∃ a b c s,e=((a,b),.int .i64 c,s)∧(a,b,c)∈smL ps L bd:=by
 obtain ⟨⟨a,b⟩,v,s⟩:=e
 obtain ⟨e,p,hp,h1,h2⟩:=h.one (a,b) v (mget_mem hm.keys he)
 subst e;exact ⟨a,b,_,s,rfl,mem_smL.2 ⟨p,hp,h1,h2,rfl⟩⟩
theorem SM.end_ {ps:List Pr} {L:List Int} {bd:Int} {ents:List ((Int×Int)×Value×Nat)} {sl:List Sm} (h:SM ps L bd ents) (hs:∀ s∈sl,s∈smL ps L bd) (hk:∀ k,k∈(sl.map fun s=>(s.1,s.2.1))↔k∈ents.map (·.1)) (s:Sm):s∈sl↔s∈smL ps L bd:=by
 refine ⟨hs s,fun hm=>?_⟩;obtain ⟨p,hp,ho,e,e2⟩:=mem_smL.1 hm
 have h1:mL L p∈ents.map (·.1):=by
  refine Classical.byContradiction fun hn=>h.all p hp ho (mget_none.2 hn)
 obtain ⟨t,O,F⟩:=List.mem_map.1 ((hk _).2 h1)
 obtain ⟨_,_,_,_,J⟩:=mem_smL.1 (hs t O)
 rw [e] at F
 have h2:t=s:=by
  obtain ⟨t1,X,t3⟩:=t
  obtain ⟨U,Y,Z⟩:=s
  simp only [Prod.mk.injEq] at F;obtain ⟨rfl,rfl⟩:=F
  simp only at e2 J;rw [e2,J]
 rw [← h2];exact O
theorem smL_seam {n:Nat} {l:List Arc} {L:List Int} {bd:Int} {s:Sm} (h:s∈smL (prs n l) L bd):Seam n l bd L s.1 s.2.1:=by
 obtain ⟨p,hp,ho,e,_⟩:=mem_smL.1 h
 unfold okP at ho;unfold mL at e
 simp only [decide_eq_true_eq,Prod.mk.injEq] at ho e;have:(lab L p.1=s.1∧lab L p.2=s.2.1)∨(lab L p.1=s.2.1∧lab L p.2=s.1):=aA
 refine ⟨p,hp,aA,this,?_⟩
 rcases this with ⟨e1,e2⟩|⟨e1,e2⟩
 ·rw [e1,e2] at ho;exact ho.2
 ·rw [e1,e2] at ho;have:=ho.2;omega
theorem lab_nat {L:List Int} {u:Int} {a:Nat} (h:u.toNat<L.length) (e:L[u.toNat]=(a:Int)):lab L u=(a:Int):=by rw [oP h,e]
theorem seams_spec {n:Nat} (A B:Option Addr) (l:List Arc) (cap:Nat) (L:List Int) (cb:Nat) (bd:Int) (w:World) (hr:Ro (Fr w []) w A ((prs n l).flatMap fC)) (hL:Ro (Fr w []) w B (bF L)) (hR:eH (n:Int) L=true) (bi:1≤n) (bk:n≤1024) (hb:1≤bd∧bd≤1024):
    Meets Tryz.prog 90 [.slice A (prs n l).length cap,.slice B L.length cb,.int .i64 bd] w [] (fun u own' =>∃ (sl:List Sm) (c' :Nat) (A' :Option Addr) (m' :Seg),u= .slice A' sl.length c'∧own' =[m']∧Own 165 3 (.slice A' sl.length c') sl.length (sl.flatMap o5) m'∧(∀ s,s∈sl↔s∈smL (prs n l) L bd)∧(∀ s∈sl,SmOk s)∧sl.length≤1048576):=by
 have bK:=prs_len (n:=n) bk l
 have bD:L.length=n:=(d6 hR).2
 have X:=e5 hR bi
 refine bE Tryz.func90 rfl Tryz.ntmps90 rfl Owns.nil<|aG fun kh1=>aB 1 rfl<|aD kh1<|aG fun kh2=>aB 1 rfl ?_
 refine f_S (aV Tryz.call88 rfl (fun w_ br=>p9 B L cb w_ (hL.up0 br) aA aA (fun x hx=>by have:=X x hx;omega)) ?_);rintro _ _ ⟨bs,rfl,rfl⟩;obtain ⟨M,hM⟩:∃ M:Nat,(e9 L+1).toNat=M:=⟨_,rfl⟩
 rw [dZ,hM];rw [hM] at X;have bR:M≤n:=(X L[0] (List.getElem_mem aA)).2.2
 dsimp only [aK,aJ];refine aB 1 rfl<|aD kh2<|aG fun kh3=>f_S (iU fun am=>?_)
 refine aB 1 rfl<|aD kh3<|aS fun kh4=>aG fun be=>aB 1 rfl<|dU h7 rfl<|aB 1 rfl<|aD be<|aR ?_
 refine dA (α:=Nat×List ((Int×Int)×Value×Nat)×Nat) [1,2,7,8,19,20] (fun ⟨i,ents,U⟩=>[(21,.int .i64 (i:Int))]) (fun ⟨i,ents,U⟩=>[[(am,e7 oS ents U)],[(bs,blk (bF (szs M L)) 3)]]) (fun ⟨i,ents,U⟩=>i≤(prs n l).length∧MOk ents U∧SM ((prs n l).take i) L bd ents) (fun ⟨i,ents,U⟩=>(prs n l).length - i) (0,[],0) ?_ ?_ ?_ ?_
 ·exact aF
 ·exact aC
 ·exact ⟨aA,MOk.nil,SM.nil L bd⟩
 ·rintro ⟨i,ents,U⟩ ⟨bY,F,hsm⟩;refine aG fun kh6=>aB 1 rfl<|aD kh6<|aS fun kh7=>aX rfl (fun bj=>?_) (fun bj=>?_)
  ·have hi:i<(prs n l).length:=aA
   obtain ⟨bp,op,rfl,bq,ba⟩:=hr (eX fC eY aA hi)
   obtain ⟨bb,ob,rfl,ax,ap⟩:=hL (fun e=>by have:=a7 L;rw [e] at this;simp at this;omega)
   have bM:=i6 (List.getElem_mem hi)
   have ak:(prs n l)[i].1.toNat<L.length:=aA
   have al:(prs n l)[i].2.toNat<L.length:=aA
   have av:=X _ (List.getElem_mem ak)
   have au:=X _ (List.getElem_mem al)
   obtain ⟨a,ha⟩:∃ a:Nat,L[(prs n l)[i].1.toNat]=(a:Int):=⟨_,(Int.toNat_of_nonneg av.1).symm⟩
   obtain ⟨b,an⟩:∃ b:Nat,L[(prs n l)[i].2.toNat]=(b:Int):=⟨_,(Int.toNat_of_nonneg au.1).symm⟩
   rw [ha] at av;rw [an] at au;have la:=lab_nat ak ha
   have lb:=lab_nat al an
   have aq:a<M:=aA
   have az:b<M:=aA
   have ag:=cnt_le L a
   have bB:=cnt_le L b
   have ca:gK L (a:Int)=cnt L a:=rfl
   have a1:gK L (b:Int)=cnt L b:=rfl
   have ai:(prs n l).take (i+1)=(prs n l).take i++[(prs n l)[i]]:=List.take_succ_eq_append_getElem hi
   have bt:((prs n l).take i).length=i:=by rw [List.length_take];omega
   have ah:mL L (prs n l)[i]=(min (a:Int) b,max (a:Int) b):=by unfold mL;rw [la,lb]
   refine bV kh7<|aS fun kh8=>aR<|aG fun kh9=>f_Q (aL h7 rfl rfl (op+i*2))<|f_Q (aO (vs:=fC (prs n l)[i]) Tryz.isAgg215 Tryz.sizeOf215 rfl rfl (f8 eY bq ba hi))<|f_S (cQ Tryz.zeroValue215 rfl fun b10=>?_)
   refine f_Z (bP Tryz.sizeOf215 rfl rfl rfl rfl cF (fC (prs n l)[i]) rfl ?_);refine aD kh9<|aS fun kh10=>c7 [[(b10,blk [.int .i64 (prs n l)[i].1,.int .i64 (prs n l)[i].2] 215)]] rfl<|f_T 0 rfl (aU rfl)<|f_T 1 rfl (aT lS rfl)<|f_T 2 rfl (aH Tryz.isAgg3 rfl (rdA rfl))<|f_T 3 rfl (aL bX rfl rfl (ob+(prs n l)[i].1.toNat))<|f_T 4 rfl (aH Tryz.isAgg3 rfl (show Rd _ _ _ _ _ (.int .i64 (a:Int)) by rw [← ha];exact d3 (enc:=(.int .i64 ·)) ax ap ak)) ?_
   refine f_T 5 rfl (aU rfl)<|f_T 6 rfl (aT oF rfl)<|f_T 7 rfl (aH Tryz.isAgg3 rfl (rdA rfl))<|f_T 8 rfl (aL bX rfl rfl (ob+(prs n l)[i].2.toNat))<|f_T 9 rfl (aH Tryz.isAgg3 rfl (show Rd _ _ _ _ _ (.int .i64 (b:Int)) by rw [← an];exact d3 (enc:=(.int .i64 ·)) ax ap al)) ?_
   refine f_T 10 rfl (bI rfl)<|f_T 11 rfl (bI rfl)<|cU aW<|bO kh10<|aS fun kh11=>gV rfl aW<|dI 4 rfl<|f_splitS 38 rfl (fun g38=>?_) (fun g38=>?_)
   ·refine dI 2 rfl<|dQ rfl rfl rfl rfl rfl (aL bX rfl rfl (a))<|dQ rfl rfl rfl rfl rfl (aH Tryz.isAgg3 rfl (rdA (v:= .int .i64 (cnt L a:Int)) (by rw [eG (by rw [gO];exact aq),kP aq]))) ?_
    refine dI 2 rfl<|dQ rfl rfl rfl rfl rfl (aL bX rfl rfl (b))<|dQ rfl rfl rfl rfl rfl (aH Tryz.isAgg3 rfl (rdA (v:= .int .i64 (cnt L b:Int)) (by rw [eG (by rw [gO];exact az),kP az]))) ?_
    refine dQ rfl rfl rfl rfl rfl (a8 rfl rfl)<|dI 3 rfl<|eI<|bO kh11<|aX rfl (fun c50=>?_) (fun c50=>?_)
    ·have aw:okP L bd (prs n l)[i]=true:=by unfold okP;rw [la,lb,ca,a1];simp only [decide_eq_true_eq];omega
     have hc:=hsm.val aw
     have J:=hsm.add aw U
     have aj:=cntK_le ((prs n l).take i) L (min (a:Int) b,max (a:Int) b)
     rw [bt] at aj;rw [← ai,ah] at J;rw [ah] at hc;refine c7 [] rfl<|f_T 0 rfl (aU rfl)<|f_T 1 rfl (aU rfl)<|f_T 2 rfl (aU rfl)<|f_T 3 rfl (o_min rfl rfl)<|f_T 4 rfl (aU rfl)<|f_T 5 rfl (aU rfl)<|f_T 6 rfl (o_max rfl rfl)<|f_T 7 rfl (o_buildA (cs:=[.int .i64 (min (a:Int) b),.int .i64 (max (a:Int) b)]) ar237 rfl rfl)<|gH 8 10 rfl rfl aW rfl rfl rfl rfl rfl rfl ?_ ?_
     ·refine (fD kt236 Tryz.zeroValue3 rfl rfl rfl (key:=(min (a:Int) b,max (a:Int) b)) (.int .i64 (cntK ((prs n l).take i) L (min (a:Int) b,max (a:Int) b):Int)) (by first|exact hc|exact (ment_val _ _ _ _).trans hc)).does ⟨aC,?_⟩;refine f_T 9 rfl (a8 rfl rfl)<|f_O 10 rfl (qJ kt236 Tryz.zeroValue3 rfl rfl rfl (key:=(min (a:Int) b,max (a:Int) b)) _ rfl ⟨aC,?_⟩)
      refine f_T 11 rfl (eU rfl rfl)<|fZ 12 rfl (mT (key:=(min (a:Int) b,max (a:Int) b)) F rfl rfl rfl ⟨aC,?_⟩)
      refine cU aW<|dF<|bO kh8<|aI<|f_Q (a8 rfl rfl)<|aB 1 rfl<|aZ ?_
      refine cS (a6 (i+1,fS ents (min (a:Int) b,max (a:Int) b) (.int .i64 ((cntK ((prs n l).take i) L (min (a:Int) b,max (a:Int) b):Int)+1)) U,fK ents (min (a:Int) b,max (a:Int) b) U) (by first|omega|(dsimp only;omega)|(simp;omega)) ⟨aA,F.put _ _,J⟩ ?_ ?_ ?_)
      ·exact aF
      ·exact aF
      ·exact aC
     ·refine (qJ kt236 Tryz.zeroValue3 rfl rfl rfl (key:=(min (a:Int) b,max (a:Int) b)) _ rfl ⟨aC,?_⟩);refine f_T 11 rfl (eU rfl rfl)<|f_O 8 rfl ((fD kt236 Tryz.zeroValue3 rfl rfl rfl (key:=(min (a:Int) b,max (a:Int) b)) (.int .i64 (cntK ((prs n l).take i) L (min (a:Int) b,max (a:Int) b):Int)) (by first|exact hc|exact (ment_val _ _ _ _).trans hc)).does ⟨aC,?_⟩)
      refine f_T 9 rfl (a8 rfl rfl)<|fZ 12 rfl (mT (key:=(min (a:Int) b,max (a:Int) b)) F rfl rfl rfl ⟨aC,?_⟩)
      refine cU aW<|dF<|bO kh8<|aI<|f_Q (a8 rfl rfl)<|aB 1 rfl<|aZ ?_
      refine cS (a6 (i+1,fS ents (min (a:Int) b,max (a:Int) b) (.int .i64 ((cntK ((prs n l).take i) L (min (a:Int) b,max (a:Int) b):Int)+1)) U,fK ents (min (a:Int) b,max (a:Int) b) U) (by first|omega|(dsimp only;omega)|(simp;omega)) ⟨aA,F.put _ _,J⟩ ?_ ?_ ?_)
      ·exact aF
      ·exact aF
      ·exact aC
    ·have J:=hsm.skip (p:=(prs n l)[i]) (fun ho=>by unfold okP at ho;rw [la,lb,ca,a1] at ho;simp only [decide_eq_true_eq] at ho;omega)
     rw [← ai] at J;refine dY<|dF<|bO kh8<|aI<|f_Q (a8 rfl rfl)<|aB 1 rfl<|aZ ?_
     refine cS (a6 (i+1,ents,U) (by first|omega|(dsimp only;omega)|(simp;omega)) ⟨aA,F,J⟩ ?_ ?_ ?_)
     ·exact aF
     ·exact aF
     ·exact aC
   ·have J:=hsm.skip (p:=(prs n l)[i]) (fun ho=>by unfold okP at ho;rw [la,lb] at ho;simp only [decide_eq_true_eq] at ho;omega)
    rw [← ai] at J;refine dI 12 rfl<|eI<|bO kh11<|iJ rfl<|dY<|dF<|bO kh8<|aI<|f_Q (a8 rfl rfl)<|aB 1 rfl ?_
    refine aZ ?_;refine cS (a6 (i+1,ents,U) (by first|omega|(dsimp only;omega)|(simp;omega)) ⟨aA,F,J⟩ ?_ ?_ ?_)
    ·exact aF
    ·exact aF
    ·exact aC
  ·refine cN<|cO<|cO<|eC<|bO kh4<|aS fun kh12=>?_
   obtain rfl:i=(prs n l).length:=aA
   rw [List.take_length] at hsm;have bC:=hsm.few
   refine aI<|aB 1 rfl<|aD kh12<|aS fun kh13=>aG fun ar=>aB 1 rfl<|f_S (o_range kt236 rfl fun b65=>?_)
   refine aD ar<|aR ?_
   refine dA (α:=List Nat×List Sm×Value×Seg) [65] (fun ⟨seen,sl,Y,O⟩=>[(13,Y)]) (fun ⟨seen,sl,Y,O⟩=>[[(b65,nO am U seen)],O,[(am,e7 oS ents U)],[(bs,blk (bF (szs M L)) 3)]]) (fun ⟨seen,sl,Y,O⟩=>Came ents seen (sl.map fun s=>(s.1,s.2.1))∧Own 165 3 Y sl.length (sl.flatMap o5) O∧∀ s∈sl,s∈smL (prs n l) L bd) (fun ⟨seen,sl,Y,O⟩=>ents.length - sl.length) ([],[],.slice none 0 0,[]) ?_ ?_ ?_ ?_
   ·exact aF
   ·exact aC
   ·exact ⟨Came.start,Own.nil _ _,fun s hs=>by cases hs⟩
   ·rintro ⟨seen,sl,Y,O⟩ ⟨ag,ac,ad⟩;have aj:=ag.len
    rw [List.length_map] at aj;obtain ⟨bu,ao,rfl,bw⟩:=ac.val
    refine fF (e:=[(13,_),(65,_)]) aF ?_;refine aG fun kh15=>f_S (o_next1 F rfl fun b2 b1 aa ay=>?_);refine aB 1 rfl<|aD kh15<|aS fun kh16=>eO rfl (fun ab=>?_) (fun ab=>?_)
    ·obtain ⟨e,he,hne,rfl⟩:∃ e∈ents,e.2.2∉seen∧aa=seen++[e.2.2]:=by
       rcases ay with ⟨_,h⟩|⟨h,_⟩
       ·exact h
       ·rw [h] at ab;cases ab
     have Z:=ag.next F he hne
     obtain ⟨ea,eb,ec,es,rfl,bf⟩:=hsm.ent F he
     dsimp only at Z hne ⊢;refine bV kh16<|aR<|aG fun kh17=>f_Q (o_entry F he rfl)<|aB 2 rfl<|f_S (cQ Tryz.zeroValue237 rfl fun b14=>?_)
     refine f_Z (bP Tryz.sizeOf237 rfl rfl rfl rfl cF [.int .i64 ea,.int .i64 eb] rfl ?_);refine aB 1 rfl<|aD kh17<|aI<|aB 1 rfl<|f_Q (o_idxA ar237 rfl rfl _ ⟨aA,aA,rfl⟩)<|cX Tryz.isAgg3 rfl (rdA rfl)<|f_Q (o_idxA ar237 rfl rfl _ ⟨aA,aA,rfl⟩)<|cX Tryz.isAgg3 rfl (rdA rfl)<|aB 1 rfl<|f_Q (dL st165 rfl rfl)<|f_S (bQ el162 aA rfl rfl rfl fun b78=>?_)
     refine f_S (dE el162 rfl rfl ac (ys:=o5 (ea,eb,ec)) ⟨(rdA rfl),(rdA rfl),(rdA rfl),trivial⟩ rfl rfl aA aA fun bh bv bc=>?_);refine aB 1 rfl<|aZ<|dF ?_
     refine cS (a6 (seen++[es],sl++[(ea,eb,ec)],bh,bv) (by have:=Z.len;simp at this ⊢;omega) ⟨by rw [List.map_append];exact Z,by rw [List.length_append,List.flatMap_append];simpa [o5] using bc,fun s hs=>by
       rcases List.mem_append.1 hs with hs|hs
       ·exact ad s hs
       ·obtain rfl:=List.mem_singleton.1 hs;exact bf⟩ ?_ ?_ ?_)
     ·exact aF
     ·exact aF
     ·exact aC
    ·obtain ⟨rfl,a2⟩:aa=seen∧∀ e∈ents,e.2.2∈seen:=by
       rcases ay with ⟨h,_⟩|⟨_,h⟩
       ·rw [h] at ab;cases ab
       ·exact h
     refine cN<|cO<|cO<|eC<|bO kh13<|aG fun kh18=>aB 2 rfl<|aD kh18<|aY ?_
     have hA:∀ s∈sl,SmOk s:=fun s hs=>by
       obtain ⟨q,hq,_,_,b3⟩:=mem_smL.1 (ad s hs)
       have bL:=cntK_le (prs n l) L (s.1,s.2.1)
       obtain ⟨p,hp,hne,bg,bW⟩:=smL_seam (ad s hs)
       have ae:=i6 hp
       have key:∀ u:Int,0≤u→u<(n:Int)→0≤lab L u∧lab L u≤1048576:=fun u h0 h1=>by
         rw [oP aA];have:=X _ (List.getElem_mem (show u.toNat<L.length by omega))
         omega
       have k1:=key p.1 ae.1.1 ae.1.2
       have k2:=key p.2 ae.2.1 ae.2.2
       unfold SmOk
       rcases bg with ⟨e1,e2⟩|⟨e1,e2⟩
       ·rw [e1] at k1;rw [e2] at k2;omega
       ·rw [e1] at k1;rw [e2] at k2;omega
     have hB:=hsm.end_ ad (ag.all a2)
     exact bJ [O] Tryz.results90 rfl (by repeat (first|exact aP|refine aM ?_|refine cE rfl ?_)) ⟨sl,ao,bu,O,rfl,rfl,ac,hB,hA,aA⟩
end Go.Proofs.YthpkelafioikaaaGreat
