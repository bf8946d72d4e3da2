import Derived.Test.YthpkelafioikaaaGreatFlyRun
import Derived.Test.YthpkelafioikaaaGreatAll1
import Derived.Test.YthpkelafioikaaaGreatAll0
import Derived.Test.YthpkelafioikaaaGreatFlyT
import Derived.Test.YthpkelafioikaaaGreatFlyMap
import Derived.Laws.IdiomRangeMap
import Derived.KernelRfl
namespace Go.Proofs.YthpkelafioikaaaGreat
open Go Go.RowKit Fly
set_option maxRecDepth 100000
set_option maxHeartbeats 4000000
set_option linter.all false
def gK (L:List Int) (y:Int):Nat:=(L.filter fun x=>decide (x=y)).length
theorem cnt_is (L:List Int) (j:Nat):cnt L j=gK L (j:Int):=rfl
theorem kO {L:List Int} {y:Int} (h:y∉L):gK L y=0:=by
 unfold gK
 rw [List.length_eq_zero_iff,List.filter_eq_nil_iff];intro x hx e;simp at e;subst e;exact h hx
theorem cntI_pos {L:List Int} {y:Int} (h:y∈L):0<gK L y:=by
 unfold gK
 exact List.length_pos_of_mem (List.mem_filter.2 ⟨h,aN⟩)
theorem cntI_set {L:List Int}:∀ {i:Nat} (h:i<L.length) (x y:Int),gK (L.set i x) y+(if L[i]=y then 1 else 0)=gK L y+(if x=y then 1 else 0):=by
 intro i h x y;have:=filt_set (fun z=>decide (z=y)) L i x h
 unfold gK
 simpa using this
theorem d6 {n:Nat} {L:List Int} (h:eH (n:Int) L=true):rgo 0 L=true∧L.length=n:=by
 unfold eH at h
 simp only [Bool.and_eq_true,decide_eq_true_eq] at h;exact ⟨h.1,aA⟩
theorem rgo_tidy:∀ (L:List Int) (P:List Nat) (q:Nat),rgo (q:Int) L=true→(nxt P P.length=q)→∃ Q:List Nat,L=Q.map (fun x:Nat=>(x:Int))∧∀ k (h:k<Q.length),Q[k]≤nxt (P++Q) (P.length+k)
 |[],P,q,_,_=>⟨[],rfl,fun k h=>by simp at h⟩
 |x::L,P,q,h,hq=>by
  unfold rgo at h
  by_cases hx:x<0∨(q:Int)<x
  ·rw [if_pos hx] at h;cases h
  ·rw [if_neg hx] at h
   obtain ⟨y,rfl⟩:∃ y:Nat,x=(y:Int):=⟨x.toNat,aA⟩
   have hn:nxt (P++[y]) (P++[y]).length=if (y:Int)=(q:Int) then q+1 else q:=by
    rw [List.length_append,List.length_singleton]
    have F:nxt (P++[y]) P.length=q:=by
     rw [← hq];exact nK _ _ _ fun j hj=>List.getElem?_append_left hj
    show (if (P++[y])[P.length]? =some (nxt (P++[y]) P.length) then nxt (P++[y]) P.length+1 else nxt (P++[y]) P.length)=_
    rw [F,List.getElem?_append_right (Nat.le_refl _),Nat.sub_self]
    by_cases hy:y=q
    ·subst hy;simp
    ·rw [if_neg (by simpa using hy),if_neg aA]
   have h' :rgo ((if (y:Int)=(q:Int) then q+1 else q:Nat):Int) L=true:=by
    by_cases hy:(y:Int)=(q:Int)
    ·rw [if_pos hy] at h ⊢;exact h
    ·rw [if_neg hy] at h ⊢;exact h
   obtain ⟨Q,rfl,J⟩:=rgo_tidy L (P++[y]) _ h' hn
   refine ⟨y::Q,rfl,fun k hk=>?_⟩
   cases k with
   |zero=>
    have F:nxt (P++y::Q) P.length=q:=by
     rw [← hq];exact nK _ _ _ fun j hj=>List.getElem?_append_left hj
    simp only [List.getElem_cons_zero,Nat.add_zero];rw [F];omega
   |succ k=>
    have:=J k (by simpa using hk)
    simp only [List.getElem_cons_succ];rw [List.length_append,List.length_singleton,List.append_assoc] at this;rw [show P.length+(k+1)=P.length+1+k by omega];exact this
theorem right_tidy {n:Nat} {L:List Int} (h:eH (n:Int) L=true):∃ Q:List Nat,L=Q.map (fun x:Nat=>(x:Int))∧Tidy Q∧Q.length=n:=by
 obtain ⟨h1,h2⟩:=d6 h
 obtain ⟨Q,rfl,F⟩:=rgo_tidy L [] 0 h1 rfl
 exact ⟨Q,rfl,fun k hk=>by have:=F k hk;simpa using this,by simpa using h2⟩
theorem lO {L:List Int} {u:Nat} (h:u<L.length):lab L (u:Int)=L[u]:=by rw [oP (by simpa using h)];simp
theorem right_unique {n:Nat} {L M:List Int} (h:eH (n:Int) L=true) (h' :eH (n:Int) M=true) (he:∀ u v:Nat,u<n→v<n→(lab L (u:Int)=lab L (v:Int)↔lab M (u:Int)=lab M (v:Int))):L=M:=by
 obtain ⟨Q,rfl,F,hq⟩:=right_tidy h
 obtain ⟨R,rfl,J,hr⟩:=right_tidy h'
 rw [tidy_unique F J aA fun i j hi hj=>?_];have:=he i j aA aA
 rw [lO (by simpa using hi),lO (by simpa using hj),lO (by simp;omega),lO (by simp;omega)] at this;simp only [List.getElem_map] at this;exact ⟨fun h=>by have:=this.1 (by rw [h]);omega,fun h=>by have:=this.2 (by rw [h]);omega⟩
def mrg (a b:Int) (L:List Int):List Int:=L.map fun x=>if x=b then a else x
theorem lN (a b:Int) (L:List Int):(mrg a b L).length=L.length:=by simp [mrg]
theorem mrg_get {a b : Int} {L : List Int} {u : Nat} (h : u < L.length) : (mrg a b L)[u]'(by rw [lN]; exact h) = if L[u] = b then a else L[u] := by simp [mrg]
theorem mrg_lab {a b:Int} {L:List Int} {u:Nat} (h:u<L.length):lab (mrg a b L) (u:Int)=if lab L (u:Int)=b then a else lab L (u:Int):=by
 rw [lO (by rw [lN];exact h),lO h,mrg_get h]
theorem cntI_mrg {a b:Int} (hne:a≠b) (y:Int):∀ L:List Int,gK (mrg a b L) y=if y=a then gK L a+gK L b else if y=b then 0 else gK L y
 |[]=>by simp [mrg,gK]
 |x::L=>by
  have ih:=cntI_mrg hne y L
  unfold gK mrg at ih ⊢
  simp only [List.map_cons,List.filter_cons]
  by_cases h1:y=a
  ·subst h1
   rw [if_pos rfl] at ih ⊢
   by_cases h2:x=b
   ·subst h2
    have:¬ x=y:=fun h=>hne h.symm
    simp [this] at ih ⊢;omega
   ·by_cases h3:x=y
    ·subst h3
     simp [h2] at ih ⊢;omega
    ·simp [h2,h3] at ih ⊢;omega
  ·rw [if_neg h1] at ih ⊢
   by_cases F:y=b
   ·subst F
    rw [if_pos rfl] at ih ⊢
    by_cases h2:x=y
    ·subst h2
     simp at ih ⊢;rw [if_neg hne];simpa using ih
    ·simp [h2] at ih ⊢;exact ih
   ·rw [if_neg F] at ih ⊢
    by_cases h2:x=b
    ·subst h2
     have e1:¬ a=y:=fun h=>h1 h.symm
     have e2:¬ x=y:=fun h=>F h.symm
     simp [e1,e2] at ih ⊢;exact ih
    ·by_cases h3:x=y
     ·subst h3
      simp [h2] at ih ⊢;exact ih
     ·simp [h2,h3] at ih ⊢;exact ih
theorem cntI_tdy {L:List Int} {bd:Int} (F:0≤bd) (h:∀ y,(gK L y:Int)≤bd) (y:Int):(gK (tdy L) y:Int)≤bd:=by
 by_cases hy:0≤y∧y<((sns L).length:Int)
 ·obtain ⟨j,rfl⟩:∃ j:Nat,y=(j:Int):=⟨y.toNat,aA⟩
  rw [← cnt_is,cnt_tdy aA];exact h _
 ·rw [kO (fun hm=>hy (tdy_rng y hm))];exact F
theorem sns_card {L:List Int} {M:Nat} {b:Int} (hr:∀ x∈L,0≤x∧x<(M:Int)) (hb:0≤b∧b<(M:Int)) (hn:b∉L):(sns L).length+1≤M:=by
 have J:(sns L).Nodup:=by have:=sns_nodup (L:=L) (k:=L.length) (Nat.le_refl _);rwa [List.take_length] at this
 have F:∀ x∈sns L,x∈L:=fun x hx=>by
  have:=sns_sub (L:=L) (k:=L.length) (Nat.le_refl _) x (by rw [List.take_length];exact hx)
  exact this
 have:=pR (n:=M) (l:=b::sns L) (fun x hx=>by
  rcases List.mem_cons.1 hx with rfl|hx
  ·exact hb
  ·exact hr x (F x hx)) (List.nodup_cons.2 ⟨fun h=>hn (F b h),J⟩)
 simpa using this
theorem tdy_labN {L:List Int} {u w:Nat} (F:u<L.length) (hw:w<L.length):(lab (tdy L) (u:Int)=lab (tdy L) (w:Int))↔lab L (u:Int)=lab L (w:Int):=tdy_lab (by simpa using F) (by simpa using hw)
structure JInv (n:Nat) (l:List Arc) (bd:Int) (L0 L:List Int):Prop where
 right:eH (n:Int) L=true
 size:∀ y,(gK L y:Int)≤bd
 coarse:∀ u v:Nat,u<n→v<n→lab L0 (u:Int)=lab L0 (v:Int)→lab L (u:Int)=lab L (v:Int)
 cut:q7 n l L≤q7 n l L0
 gen:∀ f:Nat→Nat,(∀ u v:Nat,u<n→v<n→lab L0 (u:Int)=lab L0 (v:Int)→f u=f v)→(∀ p∈prs n l,f p.1.toNat=f p.2.toNat)→∀ u v:Nat,u<n→v<n→lab L (u:Int)=lab L (v:Int)→f u=f v
def Seam (n:Nat) (l:List Arc) (bd:Int) (L:List Int) (a b:Int):Prop:=∃ p∈prs n l,a≠b∧((lab L p.1=a∧lab L p.2=b)∨(lab L p.1=b∧lab L p.2=a))∧(gK L a:Int)+gK L b≤bd
theorem JInv.refl {n:Nat} {l:List Arc} {bd:Int} {L:List Int} (h:eH (n:Int) L=true) (hs:∀ y,(gK L y:Int)≤bd):JInv n l bd L L:=
 ⟨h,hs,fun _ _ _ _ e=>e,Nat.le_refl _,fun f h1 _ u v F hv e=>h1 u v F hv e⟩
theorem JInv.step {n:Nat} {l:List Arc} {bd:Int} {L0 L:List Int} (h0:0≤bd) (h:JInv n l bd L0 L) {a b:Int} (hs:Seam n l bd L a b):JInv n l bd L0 (tdy (mrg a b L)):=by
 obtain ⟨p,hp,hne,Y,ac⟩:=hs
 have hl:=(d6 h.right).2
 have ab:=lN a b L
 have hX:∀ y,(gK (mrg a b L) y:Int)≤bd:=fun y=>by
  rw [cntI_mrg hne]
  split
  ·omega
  ·split
   ·exact h0
   ·exact h.size y
 have F:∀ u v:Nat,u<n→v<n→(lab (tdy (mrg a b L)) (u:Int)=lab (tdy (mrg a b L)) (v:Int)↔(if lab L (u:Int)=b then a else lab L (u:Int))=(if lab L (v:Int)=b then a else lab L (v:Int))):=fun u v J hv=>by
  rw [tdy_labN aA aA,mrg_lab aA,mrg_lab aA]
 refine ⟨right_tdy aA,cntI_tdy h0 hX,fun u v J hv e=>?_,?_,fun f h1 h2 u v J hv e=>?_⟩
 ·rw [F u v J hv,h.coarse u v J hv e]
 ·rw [cut_tdy aA]
  refine Nat.le_trans ?_ h.cut
  unfold q7
  have Z:∀ q∈prs n l,j8 (mrg a b L) q=true→j8 L q=true:=fun q hq O=>by
   have hr:=i6 hq
   rw [m9] at O ⊢;simp only [decide_eq_true_eq] at O ⊢;intro e;apply O;rw [show q.1=((q.1.toNat:Nat):Int) by omega,show q.2=((q.2.toNat:Nat):Int) by omega,mrg_lab aA,mrg_lab aA];rw [show ((q.1.toNat:Nat):Int)=q.1 by omega,show ((q.2.toNat:Nat):Int)=q.2 by omega,e]
  have key:∀ xs:List Pr,(∀ q∈xs,j8 (mrg a b L) q=true→j8 L q=true)→(xs.filter (j8 (mrg a b L))).length≤(xs.filter (j8 L)).length:=by
   intro xs
   induction xs with
   |nil=>intro _;simp
   |cons x xs ih=>
    intro hx;have:=ih fun q hq=>hx q (List.mem_cons_of_mem _ hq)
    have h1:=hx x (List.mem_cons_self ..)
    rw [List.filter_cons,List.filter_cons]
    split
    ·rw [if_pos (h1 (by assumption))];simp;omega
    ·split
     ·simp;omega
     ·exact this
  exact key _ Z
 ·rw [F u v J hv] at e
  have hr:=i6 hp
  have hg:=h.gen f h1 h2
  have U:∀ x y:Nat,x<n→y<n→lab L (x:Int)=a→lab L (y:Int)=b→f x=f y:=fun x y hx hy e1 e2=>by
   have h3:=h2 p hp
   have aa:lab L ((p.1.toNat:Nat):Int)=lab L p.1:=by rw [Int.toNat_of_nonneg hr.1.1]
   have X:lab L ((p.2.toNat:Nat):Int)=lab L p.2:=by rw [Int.toNat_of_nonneg hr.2.1]
   rcases Y with ⟨q1,q2⟩|⟨q1,q2⟩
   ·rw [hg x p.1.toNat hx aA (by rw [aa,q1];exact e1),h3]
    exact hg _ _ aA hy (by rw [X,q2];exact e2.symm)
   ·rw [hg x p.2.toNat hx aA (by rw [X,q2];exact e1),← h3]
    exact hg _ _ aA hy (by rw [aa,q1];exact e2.symm)
  by_cases e1:lab L (u:Int)=b<;>by_cases e2:lab L (v:Int)=b
  ·exact hg u v J hv (e1.trans e2.symm)
  ·rw [if_pos e1,if_neg e2] at e
   exact (U v u hv J e.symm e1).symm
  ·rw [if_neg e1,if_pos e2] at e
   exact U u v J hv e e2
  ·rw [if_neg e1,if_neg e2] at e
   exact hg u v J hv e
theorem e5 {n:Nat} {L:List Int} (h:eH (n:Int) L=true) (hn:1≤n):∀ x∈L,0≤x∧x<((e9 L+1).toNat:Int)∧(e9 L+1).toNat≤n:=fun x hx=>by
 obtain ⟨h1,h2⟩:=d6 h
 have hp:=rgo_pos h1 x hx
 have hm:=iI hx
 have F:0<L.length:=aA
 have:=mU F fun y hy=>by have:=rgo_lt h1 y hy;exact (show y≤(n:Int) - 1 by omega)
 omega
theorem join_less {n:Nat} {L:List Int} {a b:Int} (h:eH (n:Int) L=true) (hn:1≤n) (ha:a∈L) (hb:b∈L) (hne:a≠b):(e9 (tdy (mrg a b L))+1).toNat<(e9 L+1).toNat:=by
 obtain ⟨h1,h2⟩:=d6 h
 have hr:=e5 h hn
 have J:∀ x∈mrg a b L,0≤x∧x<((e9 L+1).toNat:Int):=fun x hx=>by
  obtain ⟨y,hy,rfl⟩:=List.mem_map.1 hx
  split
  ·exact ⟨(hr a ha).1,(hr a ha).2.1⟩
  ·exact ⟨(hr y hy).1,(hr y hy).2.1⟩
 have F:b∉mrg a b L:=fun hm=>by
  obtain ⟨y,hy,e⟩:=List.mem_map.1 hm
  split at e
  ·exact hne e
  ·rename_i h3;exact h3 e
 have hc:=sns_card J ⟨(hr b hb).1,(hr b hb).2.1⟩ F
 rw [max_tdy (by rw [lN];omega)];omega
theorem anyG_no {α:Type} {p:α→Bool} {l:List α} {k:Nat} (hk:l.length≤k) (h:∀ j (a:j<l.length),j<k→p l[j]=false):l.any p=false:=List.any_eq_false.2 fun x hx=>by
 obtain ⟨i,hi,rfl⟩:=List.mem_iff_getElem.1 hx
 simp [h i hi aA]
theorem anyG_yes {α:Type} {p:α→Bool} {l:List α} {k:Nat} (hk:k<l.length) (h:p l[k]=true):l.any p=true:=List.any_eq_true.2 ⟨_,List.getElem_mem hk,h⟩
theorem ints_oneG (l:List Int):(bF l).all (·.oneCell')=true:=by
 induction l with
 |nil=>rfl
 |cons x l ih=>rw [show bF (x::l)= .int .i64 x::bF l from rfl,List.all_cons,ih];rfl
theorem IdxG_spec (A:Option Addr) (l:List Int) (cap:Nat) (p:Int→Bool) (O:FuncId) (J:List Value) (w:World) (hr:Ro (Fr w []) w A (bF l)) (hm:l.length≤9223372036854775807) (Z:∀ args w,(callFunc O args).run Tryz.prog w= .ok (.enter O args) w)
    (U:∀ w',(∀ k,Fr w [] k→w'.heap[k]? =w.heap[k]?)→∀ i,i∈l→Meets Tryz.prog O ([.int .i64 i]++J) w' [] (fun u m=>u= .bool (p i)∧m=[])):
    Meets Tryz.prog 127 [.slice A l.length cap,.func (.func O) #[] J.toArray] w [] (fun u m=>∃ r,u= .int .i64 r∧m=[]∧decide (0≤r)=l.any p):=by
 refine bE Tryz.func127 rfl Tryz.ntmps127 rfl Owns.nil<|aG fun kh1=>aB 1 rfl<|aD kh1<|aS fun kh2=>aG fun ac=>aB 1 rfl<|dU bX rfl<|aB 1 rfl<|aD ac ?_
 refine aR ?_;refine lU (α:=Nat) [0,1,7] (fun k=>[(8,.int .i64 (k:Int))]) (fun k=>k≤l.length∧∀ j (a:j<l.length),j<k→p l[j]=false) (fun k=>l.length - k) (0) ?_ ?_ ?_
 ·exact aF
 ·exact ⟨Nat.zero_le _,fun j _ h=>aA⟩
 ·rintro k ⟨ad,F⟩;refine aG fun kh4=>aB 1 rfl<|aD kh4<|aS fun kh5=>aX rfl (fun c9=>?_) (fun c9=>?_)
  ·refine bV kh5<|aS fun kh6=>aR<|aG fun kh7=>aB 2 rfl<|aD kh7<|aG fun kh8=>aB 3 rfl ?_
   have hk:k<l.length:=aA
   obtain ⟨b1,o1,rfl,X,aa⟩:=hr (fX hk)
   refine f_Q (aL bX rfl rfl (o1+k))<|f_Q (aH Tryz.isAgg3 rfl (d3 (enc:=(.int .i64 ·)) X aa hk)) ?_;refine f_S (jG [] _ Z rfl rfl Sub.refl (fun w_ ab=>(by have h:=U w_ (fun k hk=>ab.same k hk) _ (List.getElem_mem hk);exact h)) ?_);rintro _ _ ⟨rfl,rfl⟩;dsimp only [aK,aJ];refine aD kh8<|eO rfl (fun c16=>?_) (fun c16=>?_)
   ·refine aG fun Y=>aB 2 rfl<|aD Y<|aY<|fA<|cV<|cV<|fA<|cV ?_
    exact bJ [] Tryz.results127 rfl aP ⟨_,rfl,rfl,by rw [anyG_yes hk c16];simp⟩
   ·refine dY<|dF<|bO kh6<|aI<|f_Q (a8 rfl rfl)<|aB 1 rfl<|aZ ?_
    refine cS (a6 (k+1) (by first|omega|(dsimp only;omega)|(simp;omega)) ⟨aA,qU (hk:=hk) F (by simpa using c16)⟩ ?_ ?_ ?_)
    ·exact aF
    ·exact aF
    ·exact aC
  ·refine cN<|cO<|cO<|eC<|bO kh2<|aG fun kh10=>aB 1 rfl<|aD kh10<|aY ?_
   exact bJ [] Tryz.results127 rfl aP ⟨_,rfl,rfl,by rw [anyG_no aA F];rfl⟩
theorem ContG_spec (A:Option Addr) (l:List Int) (cap:Nat) (p:Int→Bool) (O:FuncId) (F:List Value) (w:World) (hr:Ro (Fr w []) w A (bF l)) (hm:l.length≤9223372036854775807) (Y:∀ args w,(callFunc O args).run Tryz.prog w= .ok (.enter O args) w)
    (X:∀ w',(∀ k,Fr w [] k→w'.heap[k]? =w.heap[k]?)→∀ i,i∈l→Meets Tryz.prog O ([.int .i64 i]++F) w' [] (fun u m=>u= .bool (p i)∧m=[])):
    Meets Tryz.prog 75 [.slice A l.length cap,.func (.func O) #[] F.toArray] w [] (fun u m=>u= .bool (l.any p)∧m=[]):=by
 refine bE Tryz.func75 rfl Tryz.ntmps75 rfl Owns.nil<|aG fun kh1=>aB 1 rfl<|aD kh1<|aG fun kh2=>aB 2 rfl ?_
 refine f_S (aV Tryz.call127 rfl (fun Z J=>IdxG_spec A l cap p O F Z (hr.up0 J) hm Y (fun w' hs i hi=>X w' (fun k hk=>by rw [hs k ⟨Nat.lt_of_lt_of_le (J.lt k hk) J.size,aN⟩];exact J.same k hk) i hi)) ?_);rintro _ _ ⟨r,rfl,rfl,U⟩;dsimp only [aK,aJ];refine aB 2 rfl<|aD kh2<|aY ?_
 exact bJ [] Tryz.results75 rfl aP ⟨by rw [← U],rfl⟩
theorem oM (A:Option Addr) (len:Nat) (cs:List Value) (cap:Nat) (w:World) (hs:Ro (Fr w []) w A cs) (hn:A=none→len=0) (hl:cs.length=len*1) (hone:cs.all (·.oneCell')=true) (O:len≤1000000000):
    Meets Tryz.prog 56 [.slice A len cap] w [] (fun u own' =>∃ m,own' =[m]∧Own 3 1 u len cs m):=by
 refine bE Tryz.func56 rfl Tryz.ntmps56 rfl Owns.nil<|aG fun kh1=>aB 1 rfl<|aD kh1<|aS fun kh2=>aG fun kh3=>aB 1 rfl<|f_Q (o_eqlSl Tryz.underlying25 rfl rfl)<|aD kh3<|eO rfl (fun c4=>?_) (fun c4=>?_)
 ·obtain rfl:A=none:=by cases A<;>first|rfl|simp at c4
  obtain rfl:len=0:=hn rfl
  obtain rfl:cs=[]:=List.eq_nil_of_length_eq_zero (by simpa using hl)
  refine aG fun F=>aB 1 rfl<|aD F<|aY<|cV ?_
  exact bJ [[]] Tryz.results56 rfl Sub.empty ⟨[],rfl,Own.nil _ _⟩
 ·refine bV kh2<|aG fun kh5=>f_S (o_slice0 eL fun X=>?_)
  refine aB 1 rfl<|f_S (pF eL rfl rfl (Own.mk (b:=X) (cs:=[]) (len:=0) rfl aA) (ys:=cs) (fun hne=>by obtain ⟨b,off,e,Y,hc⟩:=hs hne;exact ⟨b,off,e,Seen.rds fun _=>⟨Y,hc⟩⟩) hl hone aA aA fun Z J U=>?_)
  refine aB 1 rfl<|aD kh5<|aY ?_
  exact bJ [J] Tryz.results56 rfl (by repeat (first|exact aP|refine aM ?_)) ⟨J,rfl,by simpa using U⟩
end Go.Proofs.YthpkelafioikaaaGreat
namespace Go.Proofs.YthpkelafioikaaaGreat.Fly
open Go Go.RowKit
set_option linter.unusedVariables false
set_option linter.unusedSimpArgs false
set_option linter.unusedSectionVars false
theorem nodup_inj {F J:Type} {f:F→J}:∀ {l:List F} {a b:F},(l.map f).Nodup→a∈l→b∈l→f a=f b→a=b
 |[],_,_,_,ha,_,_=>by cases ha
 |x::l,a,b,h,ha,hb,e=>by
  simp only [List.map_cons,List.nodup_cons,List.mem_map,not_exists,not_and] at h;simp only [List.mem_cons] at ha hb
  rcases ha with rfl|ha<;>rcases hb with rfl|hb
  ·rfl
  ·exact absurd e.symm (h.1 b hb)
  ·exact absurd e (h.1 a ha)
  ·exact nodup_inj h.2 ha hb e
section
variable {α:Type} [DecidableEq α]
structure Came (l:List (α×Value×Nat)) (seen:List Nat) (out:List α):Prop where
 nodup:out.Nodup
 mem:∀ e∈l,e.1∈out↔e.2.2∈seen
 sub:∀ k∈out,k∈l.map (·.1)
theorem Came.start {l:List (α×Value×Nat)}:Came l [] []:=⟨aN,aN,aN⟩
theorem Came.len {l:List (α×Value×Nat)} {seen:List Nat} {out:List α} (h:Came l seen out):out.length≤l.length:=by
 have:=List.Nodup.length_le_of_subset h.nodup h.sub
 simpa using this
theorem Came.next {l:List (α×Value×Nat)} {c:Nat} {seen:List Nat} {out:List α} (h:Came l seen out) (hok:MOk l c) {e:α×Value×Nat} (he:e∈l) (hne:e.2.2∉seen):Came l (seen++[e.2.2]) (out++[e.1]) where
 nodup:=by
  rw [List.nodup_append];refine ⟨h.nodup,aN,fun a ha b hb e' =>?_⟩;simp only [List.mem_singleton] at hb;subst hb;subst e';exact hne ((h.mem e he).1 ha)
 mem:=fun x hx=>by
  simp only [List.mem_append,List.mem_singleton];rw [h.mem x hx];constructor
  ·rintro (h1|h1)
   ·exact .inl h1
   ·exact .inr (by rw [nodup_inj hok.keys hx he h1])
  ·rintro (h1|h1)
   ·exact .inl h1
   ·exact .inr (by rw [nodup_inj (f:=fun x=>x.2.2) hok.born hx he h1])
 sub:=fun k hk=>by
  simp only [List.mem_append,List.mem_singleton] at hk
  rcases hk with hk|rfl
  ·exact h.sub k hk
  ·exact List.mem_map.2 ⟨e,he,rfl⟩
theorem Came.all {l:List (α×Value×Nat)} {seen:List Nat} {out:List α} (h:Came l seen out) (ha:∀ e∈l,e.2.2∈seen) (k:α):k∈out↔k∈l.map (·.1):=
 ⟨h.sub k,fun hk=>by obtain ⟨e,he,rfl⟩:=List.mem_map.1 hk;exact (h.mem e he).2 (ha e he)⟩
abbrev nO (bm c:Nat) (seen:List Nat):Obj:= .mapIter (some bm) c seen.toArray c
variable {P:Program} {n:Nat} {S:Nat→Prop} {w0:World} {env:Env} {segs:List Seg} {K:Value→List Seg→Prop} {d:Option Tmp} {ty:TypeId} {pos:String} {af:Array Edge} {g:Option (Nat×Bool)} {M k E:TypeId} {enc:α→Value}
theorem o_range {x:Operand} {bm:Nat} {l:List (α×Value×Nat)} {c:Nat} {f:Seg→List Seg} (J:KeyT P M k E enc) (hx:ev env x=some (.map (some bm))) [hA:At segs bm (e7 enc l c) f]
  (F:∀ b,K (.pointer (some ⟨b,0,none⟩)) ([(b,nO bm c [])]::segs)):Does P n S w0 env segs ⟨d,.range M x,ty,pos,af,g⟩ K:=
 gP fun a w ha hp=>by
  have hb:=hp.own bm _ hA.mem
  refine ⟨_,_,w.alloc (nO bm c []),.inl ?_,by simpa using hp.alloc (nO bm c []),F w.heap.size⟩;simp only [execOp,ha.eval hx,Sem.run_bind,run_range_map w M k E bm _ c J.und hb,Result.andThen_ok,Sem.run_pure]
theorem left_list (l:List (α×Value×Nat)) (seen:List Nat):(leftOf (l.map fun x=>(⟨enc x.1,x.2.1,x.2.2⟩:MapEntry)).toArray seen.toArray).toList=(l.filter fun x=> !seen.contains x.2.2).map fun x=>(⟨enc x.1,x.2.1,x.2.2⟩:MapEntry):=by
 unfold leftOf
 simp [List.filter_map,Function.comp_def]
theorem run_next_at {w:World} {r bm c:Nat} {seen:List Nat} {l:List (α×Value×Nat)} (ty:TypeId) (hr:w.heap[r]? =some (nO bm c seen)) (hb:w.heap[bm]? =some (e7 enc l c)) (hok:MOk l c):
  ((∀ e∈l,e.2.2∈seen)∧(Instr.next (.pointer (some ⟨r,0,none⟩)) false ty).run P w= .ok (.tuple #[.bool false]) w)∨
  ∃ e∈l,e.2.2∉seen∧∃ F:World,F.heap=w.heap∧F.os=w.os∧F.tape=w.tape∧F.output=w.output∧w.drawn≤F.drawn∧(Instr.next (.pointer (some ⟨r,0,none⟩)) false ty).run P w= .ok (.tuple #[.bool true,enc e.1,e.2.1]) { F with heap:=F.heap.setIfInBounds r (nO bm c (seen++[e.2.2])) }:=by
 have O:∀ x∈((l.map fun x=>(⟨enc x.1,x.2.1,x.2.2⟩:MapEntry)).toArray).toList,x.born<c:=fun x hx=>by
  simp at hx;obtain ⟨a,b,s,h,rfl⟩:=hx
  exact hok.old _ h
 simp only [Instr.next,getObj,Sem.run_bind,Sem.run,hr,hb,Result.andThen,next_test_false seen.toArray _ c c O (Nat.le_refl _),Bool.false_eq_true,if_false];have hL:=left_list (enc:=enc) l seen
 unfold leftOf at hL
 have J:∀ x∈(Array.filter (fun e=> !seen.toArray.contains e.born) (l.map fun x=>(⟨enc x.1,x.2.1,x.2.2⟩:MapEntry)).toArray).toList,x.born<c:=fun x hx=>O x (by simp at hx ⊢;exact hx.1)
 generalize Array.filter (fun e=> !seen.toArray.contains e.born) (l.map fun x=>(⟨enc x.1,x.2.1,x.2.2⟩:MapEntry)).toArray=L at hL J ⊢
 have e1:L.filter (fun x=>decide (x.born<c))=L:=Array.filter_eq_self.2 (fun x hx=>by simpa using J x (by simpa using hx))
 have e2:L.filter (fun x=>decide (x.born≥c))= #[]:=by
  rw [Array.filter_eq_empty_iff];intro x hx;have:=J x (by simpa using hx)
  simp;omega
 simp only [e1,e2,Array.append_empty]
 by_cases h0:L.size=0
 ·left
  have:L= #[]:=Array.eq_empty_of_size_eq_zero h0
  subst this;refine ⟨fun e he=>?_,by simp [choose,Sem.run,Question.forced]⟩;have U:=hL.symm
  simp only [List.map_eq_nil_iff] at U;rw [List.filter_eq_nil_iff] at U;have:=U e he
  simpa using this
 ·right
  have hne:L.isEmpty=false:=by simp [Array.isEmpty,h0]
  simp only [hne,Bool.false_eq_true,if_false,Array.empty_append,Array.size_map]
  have ab:∃ (j:Nat) (F:World),j<L.size∧F.heap=w.heap∧F.os=w.os∧F.tape=w.tape∧F.output=w.output∧w.drawn≤F.drawn∧(choose (Question.mapNext L.size)).run P w= .ok j F:=by
   by_cases hf:L.size≤1
   ·exact ⟨0,w,aA,rfl,rfl,rfl,rfl,Nat.le_refl _,by simp [choose,Sem.run,Question.forced,hf]⟩
   ·exact ⟨_,w.drew,Nat.mod_lt _ aA,rfl,rfl,rfl,rfl,Nat.le_succ _,by
     simp only [choose,Sem.run,Question.forced,decide_eq_true_eq,hf,if_false,Question.cut]
     rfl⟩
  obtain ⟨j,F,hj,q1,q2,q3,q4,q5,Z⟩:=ab
  have aa:L[j]∈L.toList:=aN
  rw [hL] at aa;obtain ⟨e,he,Y⟩:=List.mem_map.1 aa
  obtain ⟨ad,ac⟩:=List.mem_filter.1 he
  refine ⟨e,ad,by simpa using ac,F,q1,q2,q3,q4,q5,?_⟩
  have X:(setObj r (nO bm c (seen++[e.2.2]))).run P F= .ok () { F with heap:=F.heap.setIfInBounds r (nO bm c (seen++[e.2.2])) }:=by
   simp only [setObj,Sem.run];rw [q1,hr]
  have ae:seen.toArray.push L[j].born=(seen++[e.2.2]).toArray:=by rw [← Y];simp
  simp only [Z,Array.getElem?_map,Array.getElem?_eq_getElem hj,Option.map_some,Sem.run_bind,ae,X,Result.andThen];rw [← Y]
  rfl
theorem o_next {x:Operand} {r bm c:Nat} {seen:List Nat} {l:List (α×Value×Nat)} {f Z:Seg→List Seg} (hok:MOk l c) (hx:ev env x=some (.pointer (some ⟨r,0,none⟩))) [hA:At segs r (nO bm c seen) f] [hB:At segs bm (e7 enc l c) Z]
  (J:(∀ e∈l,e.2.2∈seen)→K (.tuple #[.bool false]) segs) (F:∀ e∈l,e.2.2∉seen→K (.tuple #[.bool true,enc e.1,e.2.1]) (f [(r,nO bm c (seen++[e.2.2]))])):
  Does P n S w0 env segs ⟨d,.next x false,ty,pos,af,g⟩ K:=
 gP fun a w ha hp=>by
  have hr:=hp.own r _ hA.mem
  have hb:=hp.own bm _ hB.mem
  obtain ⟨L,R,e1,e2⟩:=hA.flat
  rcases run_next_at (P:=P) (enc:=enc) ty hr hb hok with ⟨h1,h2⟩|⟨e,he,hne,U,O,X,q3,q4,Y,h2⟩
  ·exact ⟨_,_,w,.inl (by simp [execOp,ha.eval hx,h2]),hp,J h1⟩
  ·refine ⟨_,_,{ U with heap:=U.heap.setIfInBounds r (nO bm c (seen++[e.2.2])) },.inl (by simp [execOp,ha.eval hx,h2]),?_,F e he hne⟩
   rw [e2];rw [e1] at hp
   have hlt:r<w.heap.size:=by
    rcases Nat.lt_or_ge r w.heap.size with h' |h'
    ·exact h'
    ·rw [Array.getElem?_eq_none h'] at hr;cases hr
   refine hp.put (by exact X) (by exact q3) (by exact q4) (by simp [O]) (by exact Y) (by simp [O,hlt]) (fun k hk=>?_);have:r≠k:=fun e=>hk e.symm
   simp [O,Array.getElem?_setIfInBounds,this]
def Nx (l:List (α×Value×Nat)) (seen:List Nat) (b:Bool) (F:List Nat):Prop:=(b=true∧∃ e∈l,e.2.2∉seen∧F=seen++[e.2.2])∨(b=false∧F=seen∧∀ e∈l,e.2.2∈seen)
theorem o_next1 {x:Operand} {r bm c:Nat} {seen:List Nat} {l:List (α×Value×Nat)} {f O:Seg→List Seg} (hok:MOk l c) (hx:ev env x=some (.pointer (some ⟨r,0,none⟩))) [hA:At segs r (nO bm c seen) f] [hB:At segs bm (e7 enc l c) O]
  (J:∀ (b:Bool) (rest:List Value) (F:List Nat),Nx l seen b F→K (.tuple (.bool b::rest).toArray) (f [(r,nO bm c F)])):
  Does P n S w0 env segs ⟨d,.next x false,ty,pos,af,g⟩ K:=
 o_next hok hx (fun h=>by
  have e:f [(r,nO bm c seen)]=segs:=by
   obtain ⟨L,R,e1,e2⟩:=hA.eq
   rw [e1,e2]
  have:=J false [] seen (.inr ⟨rfl,rfl,h⟩)
  rwa [e] at this) fun e he hne=>J true [enc e.1,e.2.1] _ (.inl ⟨rfl,e,he,hne,rfl⟩)
theorem o_entry {x:Operand} {r bm c:Nat} {seen:List Nat} {l:List (α×Value×Nat)} {e:α×Value×Nat} {f J:Seg→List Seg} (hok:MOk l c) (he:e∈l) (hx:ev env x=some (.pointer (some ⟨r,0,none⟩))) [hA:At segs r (nO bm c (seen++[e.2.2])) f] [hB:At segs bm (e7 enc l c) J]:
  Pure P n S w0 env segs ⟨d,.entry x,ty,pos,af,g⟩ (.tuple #[enc e.1,e.2.1]):=
 fun a w ha hp=>by
  have hr:=hp.own r _ hA.mem
  have hb:=hp.own bm _ hB.mem
  have hf:((l.map fun x=>(⟨enc x.1,x.2.1,x.2.2⟩:MapEntry)).toArray).find? (·.born==e.2.2)=some ⟨enc e.1,e.2.1,e.2.2⟩:=by
   rw [← Array.find?_toList];exact find_born ⟨enc e.1,e.2.1,e.2.2⟩ _ (by simp only [List.map_map];exact hok.born) (List.mem_map.2 ⟨e,he,rfl⟩)
  have F:(seen++[e.2.2]).toArray.back? =some e.2.2:=aN
  have:(Instr.entry (.pointer (some ⟨r,0,none⟩))).run P w= .ok (.tuple #[enc e.1,e.2.1]) w:=by
   simp only [Instr.entry,getObj,Sem.run_bind,Sem.run,hr,hb,Result.andThen,F,bne_self_eq_false,Bool.false_eq_true,if_false,hf]
   rfl
  simp [execOp,ha.eval hx,this]
end
end Go.Proofs.YthpkelafioikaaaGreat.Fly
namespace Go.Proofs.YthpkelafioikaaaGreat
open Go Go.RowKit Fly
set_option maxRecDepth 100000
set_option maxHeartbeats 4000000
set_option linter.all false
theorem pD {E b c:Nat} {L L2:List Int} {sp:List Value} (h:Own E 1 (.slice (some ⟨b,0,none⟩) L.length c) L.length (bF L) [(b,blk (bF L++sp) E)]) (hl:L2.length=L.length):Own E 1 (.slice (some ⟨b,0,none⟩) L2.length c) L2.length (bF L2) [(b,blk (bF L2++sp) E)]:=by
 obtain ⟨_,h|⟨b',c',J,e,hm,h1,h2,h3⟩⟩:=h
 ·obtain ⟨e,_⟩:=h;cases e
 ·cases e
  have F:bF L++sp=bF L++J:=by simpa using hm
  have F:=List.append_cancel_left F
  subst F;exact ⟨by simp [bF],.inr ⟨b,c,sp,rfl,rfl,aA,h2,by rw [hl];exact h3⟩⟩
def spE (N:Int) (l:List Arc) (L:List Int) (bd:Int):Int:=if (fN N l L).2≠0 then (fN N l L).2 else if bd<1∨1024<bd then 1 else 0
abbrev Sm:=Int×Int×Int
def o5 (s:Sm):List Value:=[.int .i64 s.1,.int .i64 s.2.1,.int .i64 s.2.2]
theorem smCs_len (s:Sm):(o5 s).length=3:=rfl
def nT (s t:Sm):Int:=if s.2.2≠t.2.2 then t.2.2 - s.2.2 else if s.1≠t.1 then s.1 - t.1 else s.2.1 - t.2.1
theorem befI_flip {s t:Sm} (h:¬ nT s t<0):nT t s≤0:=by
 unfold nT at h ⊢
 by_cases h1:s.2.2=t.2.2
 ·rw [if_neg aA] at h;rw [if_neg aA]
  by_cases h2:s.1=t.1
  ·rw [if_neg aA] at h;rw [if_neg aA];omega
  ·rw [if_pos aA] at h;rw [if_pos aA];omega
 ·rw [if_pos aA] at h;rw [if_pos aA];omega
theorem befI_refl (s:Sm):nT s s≤0:=by unfold nT;simp
theorem befI_trans {s t u:Sm} (h:nT s t<0) (h' :nT t u≤0):nT s u≤0:=by
 unfold nT at h h' ⊢
 by_cases h1:s.2.2=t.2.2
 ·rw [if_neg aA] at h
  by_cases h2:t.2.2=u.2.2
  ·rw [if_neg aA] at h' ⊢
   by_cases h3:s.1=t.1
   ·rw [if_neg aA] at h
    by_cases F:t.1=u.1
    ·rw [if_neg aA] at h';rw [if_neg aA];omega
    ·rw [if_pos aA] at h';rw [if_pos aA];omega
   ·rw [if_pos aA] at h
    by_cases F:t.1=u.1
    ·rw [if_pos aA];omega
    ·rw [if_pos aA] at h';rw [if_pos aA];omega
  ·rw [if_pos aA] at h' ⊢;omega
 ·rw [if_pos aA] at h
  by_cases h2:t.2.2=u.2.2
  ·rw [if_pos aA];omega
  ·rw [if_pos aA] at h';rw [if_pos aA];omega
theorem take_all {l:List Sm} {s:Sm} {i:Nat} (hi:i<l.length) (h:∀ t∈l.take i,nT s t≤0):(nT l[i] s<0→∀ t∈l.take (i+1),nT l[i] t≤0)∧(¬ nT l[i] s<0→∀ t∈l.take (i+1),nT s t≤0):=by
 rw [List.take_succ_eq_append_getElem hi];constructor
 ·intro h1 t F
  rcases List.mem_append.1 F with F|F
  ·exact befI_trans h1 (h t F)
  ·obtain rfl:=List.mem_singleton.1 F;exact befI_refl _
 ·intro h1 t F
  rcases List.mem_append.1 F with F|F
  ·exact h t F
  ·obtain rfl:=List.mem_singleton.1 F;exact befI_flip h1
def SmOk (s:Sm):Prop:=(0≤s.1∧s.1≤1048576)∧(0≤s.2.1∧s.2.1≤1048576)∧0≤s.2.2∧s.2.2≤1048576
theorem tidy_spec (bl c:Nat) (L:List Int) (F:List Value) (w:World) (hn:L.length≤1024) (h0:0<L.length) (Z:Own 3 1 (.slice (some ⟨bl,0,none⟩) L.length c) L.length (bF L) [(bl,blk (bF L++F) 3)]) (ho:Owns w [[(bl,blk (bF L++F) 3)]]):
    Meets Tryz.prog 93 [.slice (some ⟨bl,0,none⟩) L.length c] w [[(bl,blk (bF L++F) 3)]] (fun u own' =>u= .tuple #[]∧own' =[[(bl,blk (bF (tdy L)++F) 3)]]∧Own 3 1 (.slice (some ⟨bl,0,none⟩) (tdy L).length c) (tdy L).length (bF (tdy L)) [(bl,blk (bF (tdy L)++F) 3)]):=by
 refine bE Tryz.func93 rfl Tryz.ntmps93 rfl ho<|aG fun kh1=>f_S (iU fun b7=>?_)
 refine aB 1 rfl<|aD kh1<|aG fun kh2=>aB 1 rfl<|dU bX rfl<|aB 1 rfl<|aD kh2<|aR ?_
 refine dA (α:=Nat×List (Int×Value×Nat)×Nat) [0,2,8,9] (fun ⟨k,ents,U⟩=>[(10,.int .i64 (k:Int))]) (fun ⟨k,ents,U⟩=>[[(bl,blk (bF (lW L k)++F) 3)],[(b7,e7 (fun x:Int=> .int .i64 x) ents U)]]) (fun ⟨k,ents,U⟩=>k≤L.length∧MOk ents U∧Nums (sns (L.take k)) ents) (fun ⟨k,ents,U⟩=>L.length - k) (0,[],0) ?_ ?_ ?_ ?_
 · exact aF
 · dsimp only
   rw [tdyTo_zero];exact aC
 · exact ⟨aA,MOk.nil,Nums.nil⟩
 ·
  rintro ⟨k,ents,U⟩ ⟨ae,X,O⟩;refine aG fun kh3=>aB 1 rfl<|aD kh3<|aS fun kh4=>aX rfl (fun ab=>?_) (fun ab=>?_)
  ·
   have hk:k<L.length:=aA
   have J:=nC hk
   have ad:=sns_len (L:=L) (k:=k) aA
   refine bV kh4<|aS fun kh5=>aR<|aG fun kh6=>aB 1 rfl<|f_Q (aL bX rfl rfl (k))<|f_Q (aH Tryz.isAgg3 rfl (rdA (v:= .int .i64 L[k]) (eF (by rw [eG (by rw [iR];exact hk),tdyTo_get hk])))) ?_
   refine aB 2 rfl<|aD kh6<|aG fun kh7=>aB 2 rfl<|f_Q (o_lookup2 kt201 Tryz.zeroValue3 rfl rfl rfl (.int .i64 (if L[k]∈sns (L.take k) then (((sns (L.take k)).idxOf L[k]:Nat):Int) else 0)) (by rw [O.2];split<;>rfl) (decide (L[k]∈sns (L.take k))) (by rw [O.2];split<;>simp_all)) ?_
   refine aB 5 rfl<|aD kh7<|aS fun kh8=>aG fun kh9=>aB 2 rfl<|aD kh9<|eO rfl (fun c22=>?_) (fun c22=>?_)
   ·
    have hx:L[k]∉sns (L.take k):=by simpa using c22
    rw [if_neg hx] at J;have aa:ents.length=(sns (L.take (k+1))).idxOf L[k]:=by rw [J,List.idxOf_append,if_neg hx,O.1];simp
    refine aG fun Y=>aB 1 rfl<|f_Q (o_lenM kt201.und rfl)<|aB 1 rfl<|aD Y<|aI<|aB 3 rfl<|f_Z (e8 kt201 rfl rfl rfl rfl ?_)
    refine aD kh8<|aI<|aB 3 rfl<|f_Q (aL bX rfl rfl (k))<|f_Z (bU Tryz.sizeOf3 rfl rfl rfl rfl (by rw [List.length_append,a7,iR];omega) (bF (lW L (k+1))++F) (by rw [p7 hk aa,List.set_append_left _ _ (by rw [a7,iR];omega)];simp [bF,List.map_set]) ?_)
    refine aZ<|dF<|bO kh5<|aI<|f_Q (a8 rfl rfl)<|aB 1 rfl<|aZ ?_
    refine cS (a6 (k+1,fS ents L[k] (.int .i64 (ents.length:Int)) U,fK ents L[k] U) (by first|omega|(dsimp only;omega)|(simp;omega)) ⟨aA,X.put _ _,by rw [J];have:=O.add hx U;rw [← O.1] at this;exact this⟩ ?_ ?_ ?_)
    · exact aF
    · exact aF
    · exact aC
   ·
    have hx:L[k]∈sns (L.take k):=by simpa using c22
    rw [if_pos hx] at J;have ac:(sns (L.take k)).idxOf L[k]=(sns (L.take (k+1))).idxOf L[k]:=by rw [J]
    refine f_reC 5 rfl (v:= .int .i64 (((sns (L.take k)).idxOf L[k]:Nat):Int)) (by rw [if_pos hx]) ?_;refine bV kh8<|aI<|aB 3 rfl<|f_Q (aL bX rfl rfl (k))<|f_Z (bU Tryz.sizeOf3 rfl rfl rfl rfl (by rw [List.length_append,a7,iR];omega) (bF (lW L (k+1))++F) (by rw [p7 hk ac,List.set_append_left _ _ (by rw [a7,iR];omega)];simp [bF,List.map_set]) ?_)
    refine aZ<|dF<|bO kh5<|aI<|f_Q (a8 rfl rfl)<|aB 1 rfl<|aZ ?_
    refine cS (a6 (k+1,ents,U) (by first|omega|(dsimp only;omega)|(simp;omega)) ⟨aA,X,by rw [J];exact O⟩ ?_ ?_ ?_)
    · exact aF
    · exact aF
    · exact aC
  ·
   refine cN<|cO<|cO<|eC ?_
   obtain rfl:k=L.length:=aA
   exact iP [[(bl,blk (bF (tdy L)++F) 3)]] Tryz.results93 (by dsimp only;rw [tdyTo_all];exact (by repeat (first|exact aP|refine aM ?_|refine cE rfl ?_))) ⟨rfl,rfl,pD Z (gI L)⟩
theorem splook_spec (N:Int) (A B:Option Addr) (l:List Arc) (cap:Nat) (L:List Int) (cb:Nat) (bd:Int) (w:World) (hr:Ro (Fr w []) w A (l.flatMap bZ)) (hl:l.length≤9223372036854775807) (X:I64 N) (hok:∀ x∈l,eK x) (U:Ro (Fr w []) w B (bF L)) (hm:L.length≤9223372036854775807):
    Meets Tryz.prog 86 [.agg #[.int .i64 N,.slice A l.length cap],.slice B L.length cb,.int .i64 bd] w [] (fun u own' =>u= .int .i64 (spE N l L bd)∧own' =[]):=by
 refine bE Tryz.func86 rfl Tryz.ntmps86 rfl Owns.nil<|aG fun kh1=>f_S (cT rfl rfl fun Z=>?_)
 refine aB 1 rfl<|aD kh1<|aS fun kh2=>aG fun kh3=>f_Q (aO (vs:=[_,_]) Tryz.isAgg24 Tryz.sizeOf24 rfl rfl ⟨(rdA rfl),(rdA rfl),trivial⟩)<|aB 1 rfl ?_
 refine f_S (aV Tryz.call115 rfl (fun Y F=>Count_spec N A B l cap L cb Y (hr.up0 F) hl X hok (U.up0 F) hm) ?_);rintro _ _ ⟨rfl,rfl⟩;dsimp only [aK,aJ];refine aB 5 rfl<|aD kh3<|aG fun kh4=>aB 2 rfl<|aD kh4<|aX rfl (fun c16=>?_) (fun c16=>?_)
 ·refine aG fun O=>aB 2 rfl<|aD O<|aY<|cV ?_
  exact bJ [] Tryz.results86 rfl aP ⟨by unfold spE;rw [if_pos c16],rfl⟩
 ·refine bV kh2<|aS fun kh6=>aG fun kh7=>aB 3 rfl<|d8 20 rfl (fun g20=>?_) (fun g20=>?_)
  ·refine aB 3 rfl<|aD kh7<|fI rfl<|aG fun kh8=>aB 1 rfl<|aD kh8<|aY<|cV ?_
   exact bJ [] Tryz.results86 rfl aP ⟨by unfold spE;rw [if_neg c16,if_pos aA],rfl⟩
  ·refine aB 3 rfl<|aD kh7<|aX rfl (fun c23=>?_) (fun c23=>?_)
   ·refine aG fun J=>aB 1 rfl<|aD J<|aY<|cV ?_
    exact bJ [] Tryz.results86 rfl aP ⟨by unfold spE;rw [if_neg c16,if_pos aA],rfl⟩
   ·refine bV kh6<|aG fun kh10=>aB 1 rfl<|aD kh10<|aY ?_
    exact bJ [] Tryz.results86 rfl aP ⟨by unfold spE;rw [if_neg c16,if_neg aA],rfl⟩
theorem Pairs_spec (N:Int) (A:Option Addr) (l:List Arc) (cap:Nat) (w:World) (hr:Ro (Fr w []) w A (l.flatMap bZ)) (hl:l.length≤9223372036854775807) (X:I64 N) (hok:∀ x∈l,eK x):
    Meets Tryz.prog 89 [.agg #[.int .i64 N,.slice A l.length cap]] w [] (fun u own' =>if (cG N l).2=0 then ∃ A' m' c,u= .tuple #[.slice A' (prs N.toNat l).length (prs N.toNat l).length,.int .i64 0]∧own' =[m']∧Own 215 2 (.slice A' (prs N.toNat l).length c) (prs N.toNat l).length ((prs N.toNat l).flatMap fC) m' else u= .tuple #[.slice none 0 0,.int .i64 (cG N l).2]∧own' =[]):=by
 refine bE Tryz.func89 rfl Tryz.ntmps89 rfl Owns.nil<|aG fun kh1=>f_S (cT rfl rfl fun Y=>?_)
 refine aB 2 rfl<|aD kh1<|aS fun kh2=>aG fun kh3=>f_Q (aO (vs:=[_,_]) Tryz.isAgg24 Tryz.sizeOf24 rfl rfl ⟨(rdA rfl),(rdA rfl),trivial⟩) ?_
 refine f_S (aV Tryz.call20 rfl (fun O F=>f3 N A l cap O (hr.up0 F) hl X hok) ?_);rintro _ _ ⟨rfl,rfl⟩;dsimp only [aK,aJ];refine aB 5 rfl<|aD kh3<|aG fun kh4=>aB 2 rfl<|aD kh4<|aX rfl (fun c12=>?_) (fun c12=>?_)
 ·refine aG fun J=>aB 3 rfl<|aD J<|aY<|cV ?_
  exact cZ [] Tryz.results89 rfl rfl aP (by rw [if_neg c12];exact ⟨rfl,rfl⟩)
 ·have hg:(cG N l).2=0:=by simpa using c12
  obtain ⟨n,rfl⟩:∃ n:Nat,N=(n:Int):=⟨N.toNat,by have:=bS hg;omega⟩
  refine bV kh2<|aG fun kh6=>f_Q (aO (vs:=[_,_]) Tryz.isAgg24 Tryz.sizeOf24 rfl rfl ⟨(rdA rfl),(rdA rfl),trivial⟩) ?_
  refine f_S (aV Tryz.call142 rfl (fun O F=>pairs_spec n A l cap O (hr.up0 F) hg) ?_);rintro _ _ ⟨A',m',rfl,rfl,c',U⟩;dsimp only [aK,aJ];refine aB 2 rfl<|aD kh6<|aY ?_
  exact cZ [m'] Tryz.results89 rfl rfl (by repeat (first|exact aP|refine aM ?_|refine cE rfl ?_)) (by rw [if_pos hg,Int.toNat_natCast];exact ⟨A',m',c',rfl,rfl,U⟩)
theorem before_spec (s t:Sm) (w:World) (hs:SmOk s) (O:SmOk t):
    Meets Tryz.prog 92 [.agg (o5 s).toArray,.agg (o5 t).toArray] w [] (fun u own' =>u= .int .i64 (nT s t)∧own' =[]):=by
 unfold SmOk at hs O
 refine bE Tryz.func92 rfl Tryz.ntmps92 rfl Owns.nil<|aG fun kh1=>f_S (cT rfl rfl fun X=>?_)
 refine f_S (cT rfl rfl fun U=>?_);refine aB 1 rfl<|aD kh1<|aS fun kh2=>aR<|aG fun kh3=>cL fa165_2 rfl<|cX Tryz.isAgg3 rfl (rdA rfl)<|cL fa165_2 rfl<|cX Tryz.isAgg3 rfl (rdA rfl)<|aB 2 rfl ?_
 refine aD kh3<|aX rfl (fun c5=>?_) (fun c5=>?_)
 ·refine aG fun F=>cL fa165_2 rfl<|cX Tryz.isAgg3 rfl (rdA rfl)<|cL fa165_2 rfl<|cX Tryz.isAgg3 rfl (rdA rfl)<|f_Q (jC rfl rfl)<|aB 1 rfl<|aD F<|aY<|fA ?_
  refine cV ?_;exact bJ [] Tryz.results92 rfl aP ⟨by unfold nT;rw [if_pos aA],rfl⟩
 ·refine aG fun kh5=>cL fa165_0 rfl<|cX Tryz.isAgg3 rfl (rdA rfl)<|cL fa165_0 rfl<|cX Tryz.isAgg3 rfl (rdA rfl)<|aB 2 rfl<|aD kh5<|aX rfl (fun c16=>?_) (fun c16=>?_)
  ·refine aG fun J=>cL fa165_0 rfl<|cX Tryz.isAgg3 rfl (rdA rfl)<|cL fa165_0 rfl<|cX Tryz.isAgg3 rfl (rdA rfl)<|f_Q (jC rfl rfl)<|aB 1 rfl<|aD J<|aY<|fA ?_
   refine cV ?_;exact bJ [] Tryz.results92 rfl aP ⟨by unfold nT;rw [if_neg aA,if_pos aA],rfl⟩
  ·refine dY<|dF<|bO kh2<|aG fun kh7=>cL fa165_1 rfl<|cX Tryz.isAgg3 rfl (rdA rfl)<|cL fa165_1 rfl<|cX Tryz.isAgg3 rfl (rdA rfl)<|f_Q (jC rfl rfl)<|aB 1 rfl ?_
   refine aD kh7<|aY ?_
   exact bJ [] Tryz.results92 rfl aP ⟨by unfold nT;rw [if_neg aA,if_neg aA],rfl⟩
theorem MinF_spec (A:Option Addr) (cap:Nat) (l:List Sm) (w:World) (hr:Ro (Fr w []) w A (l.flatMap o5)) (O:0<l.length) (hl:l.length≤9223372036854775807) (hok:∀ s∈l,SmOk s):
    Meets Tryz.prog 91 [.slice A l.length cap,.func (.func 92) #[] #[]] w [] (fun u own' =>∃ s,u= .agg (o5 s).toArray∧s∈l∧(∀ t∈l,nT s t≤0)∧own' =[]):=by
 obtain ⟨bq,off,rfl,Z,hc⟩:=hr (eX o5 smCs_len aA O)
 refine bE Tryz.func91 rfl Tryz.ntmps91 rfl Owns.nil<|aG fun kh1=>f_S (cQ Tryz.zeroValue165 rfl fun b4=>?_)
 refine aD kh1<|aS fun kh2=>aG fun kh3=>aB 1 rfl<|dU sl162 rfl<|aB 1 rfl<|aD kh3<|dX rfl aA<|bV kh2<|aG fun kh4=>?_
 refine aB 1 rfl<|f_Q (aL sl162 rfl rfl (off+0*3))<|f_Q (aO (vs:=o5 l[0]) Tryz.isAgg165 Tryz.sizeOf165 rfl rfl (f8 smCs_len Z hc O))<|f_S (cQ Tryz.zeroValue165 rfl fun b5=>?_)
 refine f_Z (bP Tryz.sizeOf165 rfl rfl rfl rfl cF (o5 l[0]) rfl ?_);refine aD kh4<|aS fun kh5=>aG fun U=>aB 1 rfl<|aD U<|aR ?_
 refine dA (α:=Nat×Sm) [0,1,4,5] (fun ⟨i,s⟩=>[(6,.int .i64 (i:Int))]) (fun ⟨i,s⟩=>[[(b5,blk (o5 s) 165)],[(b4,blk [.int .i64 0,.int .i64 0,.int .i64 0] 165)]]) (fun ⟨i,s⟩=>i≤l.length∧s∈l∧∀ t∈l.take i,nT s t≤0) (fun ⟨i,s⟩=>l.length - i) (1,l[0]) ?_ ?_ ?_ ?_
 ·exact aF
 ·exact aC
 ·exact ⟨aA,List.getElem_mem O,fun t Y=>by rw [List.take_succ_eq_append_getElem O] at Y;simp at Y;subst Y;exact befI_refl _⟩
 ·rintro ⟨i,s⟩ ⟨aa,hs,F⟩;refine aS fun X=>aG fun kh8=>aB 2 rfl<|dU sl162 rfl<|aB 1 rfl<|aD kh8<|aX rfl (fun c17=>?_) (fun c17=>?_)
  ·have hi:i<l.length:=aA
   have J:=take_all hi F
   refine bV X<|aS fun kh9=>aR<|aS fun kh10=>c7 [[(b5,blk (o5 s) 165)]] rfl<|f_T 0 rfl (aU rfl)<|f_T 1 rfl (aU rfl)<|f_T 2 rfl (aU rfl)<|f_T 3 rfl (aL sl162 rfl rfl (off+i*3))<|f_T 4 rfl (aO (vs:=o5 l[i]) Tryz.isAgg165 Tryz.sizeOf165 rfl rfl (f8 smCs_len Z hc hi)) ?_
   refine f_T 5 rfl (aO (vs:=[_,_,_]) Tryz.isAgg165 Tryz.sizeOf165 rfl rfl ⟨(rdA rfl),(rdA rfl),(rdA rfl),trivial⟩) ?_;refine f_O 6 rfl (jG [] _ Tryz.call92 rfl rfl Sub.refl (fun w_ ab=>(by have h:=before_spec l[i] s w_ (hok _ (List.getElem_mem hi)) (hok _ hs);exact h)) ?_);rintro _ _ ⟨rfl,rfl⟩;dsimp only [aK,aJ];refine ⟨aC,?_⟩;refine f_T 7 rfl (o_lss rfl rfl)<|cU aW<|bO kh10<|aX rfl (fun c27=>?_) (fun c27=>?_)
   ·refine aI<|aB 2 rfl<|f_Q (aL sl162 rfl rfl (off+i*3))<|f_Q (aO (vs:=o5 l[i]) Tryz.isAgg165 Tryz.sizeOf165 rfl rfl (f8 smCs_len Z hc hi))<|f_Z (bP Tryz.sizeOf165 rfl rfl rfl rfl cF (o5 l[i]) rfl ?_)
    refine aZ<|dF<|bO kh9<|aI<|aB 1 rfl<|f_Q (a8 rfl rfl)<|aB 1 rfl<|aZ ?_
    refine cS (a6 (i+1,l[i]) (by first|omega|(dsimp only;omega)|(simp;omega)) ⟨aA,List.getElem_mem hi,J.1 aA⟩ ?_ ?_ ?_)
    ·exact aF
    ·exact aF
    ·exact aC
   ·refine dY<|dF<|bO kh9<|aI<|aB 1 rfl<|f_Q (a8 rfl rfl)<|aB 1 rfl<|aZ ?_
    refine cS (a6 (i+1,s) (by first|omega|(dsimp only;omega)|(simp;omega)) ⟨aA,hs,J.2 aA⟩ ?_ ?_ ?_)
    ·exact aF
    ·exact aF
    ·exact aC
  ·refine cN<|cO<|cO<|eC<|bO kh5<|aG fun kh11=>f_Q (aO (vs:=[_,_,_]) Tryz.isAgg165 Tryz.sizeOf165 rfl rfl ⟨(rdA rfl),(rdA rfl),(rdA rfl),trivial⟩)<|f_Z (bP Tryz.sizeOf165 rfl rfl rfl rfl cF (o5 s) rfl ?_)
   refine aD kh11<|aY ?_
   exact f_finR1 [] Tryz.results91 (rvA (vs:=o5 s) Tryz.isAgg165 Tryz.sizeOf165 rfl rfl ⟨(rdA rfl),(rdA rfl),(rdA rfl),trivial⟩) aP ⟨s,rfl,hs,(by rw [List.take_of_length_le aA] at F;exact F),rfl⟩
end Go.Proofs.YthpkelafioikaaaGreat
namespace Go.Proofs.YthpkelafioikaaaGreat
open Go Fly
set_option linter.unusedVariables false
set_option linter.unusedSimpArgs false
set_option linter.unusedSectionVars false
theorem lc_zeroN {N:Int} {l:List Arc} {L:List Int} (hg:(cG N l).2=0) (F:eH N L=true):(fN N l L).2=0:=by
 unfold fN
 rw [if_neg (by rw [hg];simp),if_neg (by rw [F];simp)]
theorem spE_oneN {N:Int} {l:List Arc} {L:List Int} {bd:Int} (hg:(cG N l).2=0) (F:eH N L=true) (hb:1≤bd∧bd≤1024):spE N l L bd=0:=by
 unfold spE
 rw [if_neg (by rw [lc_zeroN hg F];simp),if_neg aA]
theorem right_cntN {n:Nat} {L:List Int} (O:eH (n:Int) L=true) (hn:1≤n) {j:Nat} (hj:j<(e9 L+1).toNat):1≤cnt L j:=by
 have hl:=(d6 O).2
 have e:L=tdy L:=right_unique O (right_tdy hl) fun u v U hv=>(tdy_labN aA aA).symm
 have hm:=max_tdy (L:=L) aA
 rw [← e] at hm;have J:j<(sns L).length:=aA
 rw [e,cnt_tdy J]
 have F:(sns L)[j]∈L:=by
  have:=sns_sub (L:=L) (k:=L.length) (Nat.le_refl _) (sns L)[j] (by rw [List.take_length];exact List.getElem_mem _)
  exact this
 have:=cntI_pos F
 unfold gK at this
 omega
theorem max_cntN {L:List Int} (F:0<(dZ L).length) {bd:Int} (h:∀ y,(gK L y:Int)≤bd):e9 (dZ L)≤bd:=mU F fun x hx=>by
 unfold dZ szs at hx
 obtain ⟨j,_,rfl⟩:=List.mem_map.1 hx
 exact h j
theorem lc_right {N:Int} {l:List Arc} {L:List Int} (hg:(cG N l).2=0) (h:(fN N l L).2=0):eH N L=true:=by
 unfold fN at h
 rw [if_neg (by rw [hg];simp)] at h
 by_cases F:eH N L=false
 ·rw [if_pos F] at h;cases h
 ·simpa using F
def kZ (N:Int) (l:List Arc) (c:List Int) (b:Int):Int:=if (fN N l c).2≠0 then (fN N l c).2 else if b<e9 (dZ c) then 90 else 0
def iN (b a:List Int):Prop:=∀ u,u<b.length→∀ v,v<b.length→b.getD u 0=b.getD v 0→a.getD u 0=a.getD v 0
instance (b a:List Int):Decidable (iN b a):=by unfold iN;infer_instance
def mZ (bs:List Int):Nat→Int
 |0=>0
 |k+1=>bs.getD k 0
def lvE (N:Int) (l:List Arc) (bs:List Int) (L:List (List Int)) (k:Nat):Int:=
 if bs.getD k 0≤mZ bs k∨1024<bs.getD k 0 then 1 else if kZ N l (L.getD k []) (bs.getD k 0)≠0 then kZ N l (L.getD k []) (bs.getD k 0) else if 0<k∧¬ iN (L.getD (k - 1) []) (L.getD k []) then 110 else 0
def nsE (N:Int) (l:List Arc) (bs:List Int) (L:List (List Int)):Int×Int:=
 if (cG N l).2≠0 then (0,(cG N l).2) else if bs.length<1∨5<bs.length∨L.length≠bs.length then (0,111) else
 match (List.range bs.length).find? (fun k=>decide (lvE N l bs L k≠0)) with
 |some k=>((k:Int)+1,lvE N l bs L k)
 |none=>(0,0)
theorem find_first {m k:Nat} {p:Nat→Bool} (hk:k<m) (h:∀ j,j<k→p j=false) (hp:p k=true):(List.range m).find? p=some k:=by
 rw [List.find?_eq_some_iff_getElem];exact ⟨hp,k,by simpa using hk,aN,fun j hj=>by simp [h j hj]⟩
theorem find_none {m:Nat} {p:Nat→Bool} (h:∀ j,j<m→p j=false):(List.range m).find? p=none:=by
 rw [List.find?_eq_none];intro x hx;simp [h x (by simpa using hx)]
theorem nsE_at {N:Int} {l:List Arc} {bs:List Int} {L:List (List Int)} (hg:(cG N l).2=0) (hm:¬ (bs.length<1∨5<bs.length∨L.length≠bs.length)) {k:Nat} (hk:k<bs.length) (h:∀ j,j<k→lvE N l bs L j=0) (hp:lvE N l bs L k≠0):
  nsE N l bs L=((k:Int)+1,lvE N l bs L k):=by
 unfold nsE
 rw [if_neg (by rw [hg];simp),if_neg hm,find_first hk (fun j hj=>by simp [h j hj]) (by simpa using hp)]
theorem nsE_none {N:Int} {l:List Arc} {bs:List Int} {L:List (List Int)} (hg:(cG N l).2=0) (hm:¬ (bs.length<1∨5<bs.length∨L.length≠bs.length)) (h:∀ j,j<bs.length→lvE N l bs L j=0):nsE N l bs L=(0,0):=by
 unfold nsE
 rw [if_neg (by rw [hg];simp),if_neg hm,find_none fun j hj=>by simp [h j hj]]
structure NestOk (n:Nat) (l:List Arc) (bs:List Int) (L:List (List Int)):Prop where
 g:(cG (n:Int) l).2=0
 many:1≤bs.length∧bs.length≤5
 len:L.length=bs.length
 lv:∀ k,k<bs.length→lvE (n:Int) l bs L k=0
theorem nsE_zero {N:Int} {l:List Arc} {bs:List Int} {L:List (List Int)} (h:(nsE N l bs L).2=0):∃ n:Nat,N=(n:Int)∧NestOk n l bs L:=by
 unfold nsE at h
 by_cases hg:(cG N l).2=0
 ·rw [if_neg (by rw [hg];simp)] at h
  by_cases hm:bs.length<1∨5<bs.length∨L.length≠bs.length
  ·rw [if_pos hm] at h;cases h
  ·rw [if_neg hm] at h
   have hz:=bS hg
   obtain ⟨n,rfl⟩:∃ n:Nat,N=(n:Int):=⟨N.toNat,aA⟩
   refine ⟨n,rfl,hg,aA,aA,fun k hk=>?_⟩
   split at h
   ·rename_i j hj
    have:=List.find?_some hj
    simp only [decide_eq_true_eq] at this;exact absurd h this
   ·rename_i hn
    rw [List.find?_eq_none] at hn;have:=hn k (by simpa using hk)
    simpa using this
 ·rw [if_pos hg] at h;exact absurd h hg
theorem NestOk.zero {n:Nat} {l:List Arc} {bs:List Int} {L:List (List Int)} (h:NestOk n l bs L):nsE (n:Int) l bs L=(0,0):=nsE_none h.g (by have:=h.many;have:=h.len;omega) h.lv
theorem l4 {n:Nat} {l:List Arc} {bs:List Int} {L:List (List Int)} (hg:(cG (n:Int) l).2=0) {k:Nat}:lvE (n:Int) l bs L k=0↔
  (mZ bs k<bs.getD k 0∧bs.getD k 0≤1024)∧eH (n:Int) (L.getD k [])=true∧(∀ y,(gK (L.getD k []) y:Int)≤bs.getD k 0)∧(0<k→iN (L.getD (k - 1) []) (L.getD k [])):=by
 have hn:=bS hg
 have Z:kZ (n:Int) l (L.getD k []) (bs.getD k 0)=0↔eH (n:Int) (L.getD k [])=true∧∀ y,(gK (L.getD k []) y:Int)≤bs.getD k 0:=by
  unfold kZ
  constructor
  ·intro h
   by_cases h1:(fN (n:Int) l (L.getD k [])).2=0
   ·have O:=lc_right hg h1
    rw [if_neg (by rw [h1];simp)] at h;refine ⟨O,fun y=>?_⟩
    have aa:e9 (dZ (L.getD k []))≤bs.getD k 0:=by
     by_cases h2:bs.getD k 0<e9 (dZ (L.getD k []))
     ·rw [if_pos h2] at h;cases h
     ·omega
    have F:=e5 O aA
    by_cases hy:y∈L.getD k []
    ·have h3:=F y hy
     obtain ⟨j,rfl⟩:∃ j:Nat,y=(j:Int):=⟨y.toNat,aA⟩
     have U:(cnt (L.getD k []) j:Int)∈dZ (L.getD k []):=by
      unfold dZ szs
      exact List.mem_map.2 ⟨j,by rw [List.mem_range];omega,rfl⟩
     have:=iI U
     rw [cnt_is] at this;omega
    ·rw [kO hy]
     have Y:0<(L.getD k []).length:=by have:=(d6 O).2;omega
     have J:=F _ (List.getElem_mem Y)
     have X:(cnt (L.getD k []) 0:Int)∈dZ (L.getD k []):=by
      unfold dZ szs
      exact List.mem_map.2 ⟨0,by rw [List.mem_range];omega,rfl⟩
     have:=iI X
     omega
   ·rw [if_pos h1] at h;exact absurd h h1
  ·rintro ⟨O,hs⟩
   have h1:=lc_zeroN hg O
   have F:=e5 O aA
   have Y:0<(L.getD k []).length:=by have:=(d6 O).2;omega
   have J:=F _ (List.getElem_mem Y)
   rw [if_neg (by rw [h1];simp),if_neg];have:=max_cntN (L:=L.getD k []) (by unfold dZ;rw [gO];omega) hs
   omega
 unfold lvE
 by_cases h1:bs.getD k 0≤mZ bs k∨1024<bs.getD k 0
 ·rw [if_pos h1]
  constructor
  ·intro h;cases h
  ·rintro ⟨h2,_⟩;omega
 ·rw [if_neg h1]
  by_cases h2:kZ (n:Int) l (L.getD k []) (bs.getD k 0)=0
  ·rw [if_neg (by rw [h2];simp)]
   obtain ⟨h3,U⟩:=Z.1 h2
   by_cases J:0<k∧¬ iN (L.getD (k - 1) []) (L.getD k [])
   ·rw [if_pos J]
    constructor
    ·intro h;cases h
    ·rintro ⟨_,_,_,X⟩;exact absurd (X J.1) J.2
   ·rw [if_neg J]
    exact ⟨fun _=>⟨aA,h3,U,fun h=>Classical.byContradiction fun X=>J ⟨h,X⟩⟩,fun _=>rfl⟩
  ·rw [if_pos h2]
   constructor
   ·intro h;exact absurd h h2
   ·rintro ⟨_,h3,U,_⟩;exact Z.2 ⟨h3,U⟩
section
variable {n:Nat} {l:List Arc} {bs:List Int} {L:List (List Int)}
theorem NestOk.bnd (h:NestOk n l bs L) {k:Nat} (hk:k<bs.length):mZ bs k<bs.getD k 0∧bs.getD k 0≤1024:=((l4 h.g).1 (h.lv k hk)).1
theorem NestOk.right (h:NestOk n l bs L) {k:Nat} (hk:k<bs.length):eH (n:Int) (L.getD k [])=true:=((l4 h.g).1 (h.lv k hk)).2.1
theorem NestOk.size (h:NestOk n l bs L) {k:Nat} (hk:k<bs.length):∀ y,(gK (L.getD k []) y:Int)≤bs.getD k 0:=((l4 h.g).1 (h.lv k hk)).2.2.1
theorem NestOk.within (h:NestOk n l bs L) {k:Nat} (hk:k<bs.length) (F:0<k):iN (L.getD (k - 1) []) (L.getD k []):=((l4 h.g).1 (h.lv k hk)).2.2.2 F
theorem NestOk.rowlen (h:NestOk n l bs L) {k:Nat} (hk:k<bs.length):(L.getD k []).length=n:=(d6 (h.right hk)).2
theorem NestOk.n1 (h:NestOk n l bs L):1≤n∧n≤1024:=by have:=bS h.g;omega
end
def lkE (N:Int) (l:List Arc) (bs:List Int) (L:List (List Int)) (q:Int):Int:=if (nsE N l bs L).2≠0 then (nsE N l bs L).2 else if q<1∨(bs.length:Int)<q then 111 else 0
def clE (N:Int) (l:List Arc) (bs:List Int) (L:List (List Int)) (q c:Int):Int:=if lkE N l bs L q≠0 then lkE N l bs L q else if c<0∨e9 (L.getD (q.toNat - 1) [])+1≤c then 120 else 0
theorem lkE_zero {N:Int} {l:List Arc} {bs:List Int} {L:List (List Int)} {q:Int} (h:lkE N l bs L q=0):∃ n k:Nat,N=(n:Int)∧NestOk n l bs L∧q=(k:Int)+1∧k<bs.length:=by
 unfold lkE at h
 by_cases h1:(nsE N l bs L).2=0
 ·rw [if_neg (by rw [h1];simp)] at h
  obtain ⟨n,rfl,hok⟩:=nsE_zero h1
  by_cases h2:q<1∨(bs.length:Int)<q
  ·rw [if_pos h2] at h;cases h
  ·exact ⟨n,q.toNat - 1,rfl,hok,aA,aA⟩
 ·rw [if_pos h1] at h;exact absurd h h1
theorem j7 {N:Int} {l:List Arc} {bs:List Int} {L:List (List Int)} {q c:Int} (h:clE N l bs L q c=0):∃ n k j:Nat,N=(n:Int)∧NestOk n l bs L∧q=(k:Int)+1∧k<bs.length∧c=(j:Int)∧(j:Int)<e9 (L.getD k [])+1:=by
 unfold clE at h
 by_cases h1:lkE N l bs L q=0
 ·rw [if_neg (by rw [h1];simp)] at h
  obtain ⟨n,k,rfl,hok,rfl,hk⟩:=lkE_zero h1
  have e:((k:Int)+1).toNat - 1=k:=aA
  rw [e] at h
  by_cases h2:c<0∨e9 (L.getD k [])+1≤c
  ·rw [if_pos h2] at h;cases h
  ·exact ⟨n,k,c.toNat,rfl,hok,rfl,hk,aA,aA⟩
 ·rw [if_pos h1] at h;exact absurd h h1
def mem (n:Nat) (L:List Int) (c:Int):List Int:=((List.range n).filter fun v=>decide (L.getD v 0=c)).map fun v:Nat=>(v:Int)
end Go.Proofs.YthpkelafioikaaaGreat
namespace Go.Proofs.YthpkelafioikaaaGreat
open Go Go.RowKit Fly
set_option maxRecDepth 100000
set_option maxHeartbeats 4000000
set_option linter.all false
abbrev Row:=Option Addr×List Int×Nat
abbrev fG (r:Row):Value:= .slice r.1 r.2.1.length r.2.2
def bG (R:List Row):List (List Int):=R.map (·.2.1)
structure NestRo (S:Nat→Prop) (w:World) (Ab:Option Addr) (bs:List Int) (Ac:Option Addr) (R:List Row):Prop where
 b:Ro S w Ab (bF bs)
 bl:bs.length≤9223372036854775807
 c:Ro S w Ac (R.map fG)
 cl:R.length≤9223372036854775807
 rows:∀ r∈R,Ro S w r.1 (bF r.2.1)∧r.2.1.length≤9223372036854775807
theorem NestRo.up0 {S:Nat→Prop} {w0 w:World} {m:Seg} {F J:Option Addr} {bs:List Int} {R:List Row} (h:NestRo S w0 F bs J R) (hp:Hp S w0 m w):NestRo (Fr w []) w F bs J R:=
 ⟨h.b.up0 hp,h.bl,h.c.up0 hp,h.cl,fun r hr=>⟨(h.rows r hr).1.up0 hp,(h.rows r hr).2⟩⟩
theorem d5 (R:List Row):(bG R).length=R.length:=by simp [bG]
theorem iF {R:List Row} {k:Nat} (h:k<R.length):(bG R).getD k []=R[k].2.1:=by simp [bG,List.getD_eq_getElem?_getD,h]
theorem bs_at {bs:List Int} {k:Nat} (h:k<bs.length):bs.getD k 0=bs[k]:=by simp [List.getD_eq_getElem?_getD,h]
structure Wi (b a:List Int) (v:Nat) (ents:List (Int×Value×Nat)):Prop where
 yes:∀ u (h:u<b.length) (h' :u<a.length),u<v→eR ents b[u]=some (.int .i64 a[u])
 no:∀ c,c∉b.take v→eR ents c=none
theorem Wi.nil (b a:List Int):Wi b a 0 []:=⟨fun u _ _ h=>aA,fun c _=>rfl⟩
theorem Wi.val {b a:List Int} {v:Nat} {ents:List (Int×Value×Nat)} (h:Wi b a v ents) (hl:a.length=b.length) (c:Int):
  ∃ p : Int, (eR ents c).getD (.int .i64 0) = .int .i64 p ∧ (eR ents c).isSome = decide (c ∈ b.take v) ∧ (c ∈ b.take v → ∃ u, ∃ F : u < b.length, u < v ∧ b[u] = c ∧ a[u]'aA = p) := by
 by_cases hm:c∈b.take v
 ·obtain ⟨u,F,e⟩:=List.mem_iff_getElem.1 hm
  rw [List.getElem_take] at e;rw [List.length_take] at F;have:=h.yes u aA aA aA
  rw [e] at this;exact ⟨a[u]'aA, by rw [this]; rfl, by rw [this, decide_eq_true hm]; rfl, fun _ => ⟨u, aA, aA, e, rfl⟩⟩
 ·exact ⟨0,by rw [h.no c hm];rfl,by rw [h.no c hm,decide_eq_false hm];rfl,fun h=>absurd h hm⟩
theorem Wi.next {b a : List Int} {v : Nat} {ents : List (Int × Value × Nat)} (h : Wi b a v ents) (hl : a.length = b.length) (hv : v < b.length) (hs : b[v] ∈ b.take v → ∃ u, ∃ O : u < b.length, u < v ∧ b[u] = b[v] ∧ a[u]'aA = a[v]'aA) (k : Nat) : Wi b a (v + 1) (fS ents b[v] (.int .i64 (a[v]'aA)) k) where
 yes:=fun u O F Y=>by
  rw [jA]
  by_cases e:b[u]=b[v]
  ·rw [if_pos e]
   by_cases e2:u=v
   ·subst e2;rfl
   ·have J:u<v:=aA
    have hm:b[v]∈b.take v:=by rw [← e];exact List.mem_iff_getElem.2 ⟨u,by rw [List.length_take];omega,List.getElem_take⟩
    obtain ⟨w,hw,U,X,Z⟩:=hs hm
    have h1:=h.yes w hw aA U
    have h2:=h.yes u O F J
    rw [X] at h1;rw [e,h1] at h2;rw [← Z];exact h2
  ·rw [if_neg e]
   refine h.yes u O F ?_
   by_cases e2:u=v
   ·subst e2;exact absurd rfl e
   ·omega
 no:=fun c hc=>by
  rw [List.take_succ_eq_append_getElem hv,List.mem_append,List.mem_singleton] at hc;rw [jA,if_neg (fun e=>hc (.inr e))];exact h.no c fun hm=>hc (.inl hm)
theorem Wi.all {b a:List Int} {ents:List (Int×Value×Nat)} (h:Wi b a b.length ents) (hl:a.length=b.length):iN b a:=fun u F v hv e=>by
 simp only [List.getD_eq_getElem?_getD,List.getElem?_eq_getElem F,List.getElem?_eq_getElem hv,List.getElem?_eq_getElem (show u<a.length by omega),List.getElem?_eq_getElem (show v<a.length by omega),Option.getD_some] at e ⊢;have h1:=h.yes u F aA F
 have h2:=h.yes v hv aA hv
 rw [e,h2] at h1;simp at h1;exact h1.symm
theorem not_within {b a : List Int} {u v : Nat} (hl : a.length = b.length) (F : u < b.length) (hv : v < b.length) (e : b[u] = b[v]) (hne : a[u]'aA ≠ a[v]'aA) : ¬ iN b a := fun h => hne (by
 have:=h u F v hv (by simp only [List.getD_eq_getElem?_getD,List.getElem?_eq_getElem F,List.getElem?_eq_getElem hv,Option.getD_some];exact e)
 simpa [List.getD_eq_getElem?_getD,show u<a.length by omega,show v<a.length by omega] using this)
def hZ (L:List Int) (c:Int) (k:Nat):List Int:=((List.range k).filter fun v=>decide (L.getD v 0=c)).map fun v:Nat=>(v:Int)
theorem memTo_yes {L:List Int} {c:Int} {k:Nat} (h:L.getD k 0=c):hZ L c (k+1)=hZ L c k++[(k:Int)]:=by
 unfold hZ;rw [List.range_succ,List.filter_append,List.map_append,List.filter_cons,if_pos (decide_eq_true h)];rfl
theorem memTo_no {L:List Int} {c:Int} {k:Nat} (h:L.getD k 0≠c):hZ L c (k+1)=hZ L c k:=by
 unfold hZ;rw [List.range_succ,List.filter_append,List.map_append,List.filter_cons,if_neg (by rw [decide_eq_false h];simp)];simp
theorem pL (L:List Int) (c:Int) (k:Nat):(hZ L c k).length≤k:=by
 unfold hZ;rw [List.length_map];exact Nat.le_trans (List.length_filter_le _ _) aN
theorem spE_zeroN {N:Int} {l:List Arc} {L:List Int} {bd:Int} (h:spE N l L bd=0):∃ n:Nat,N=(n:Int)∧1≤n∧n≤1024∧(cG (n:Int) l).2=0∧eH (n:Int) L=true∧1≤bd∧bd≤1024:=by
 unfold spE at h
 by_cases h1:(fN N l L).2=0
 ·rw [if_neg (by rw [h1];simp)] at h
  have hg:(cG N l).2=0:=by
   unfold fN at h1
   by_cases h2:(cG N l).2=0
   ·exact h2
   ·rw [if_pos h2] at h1;exact absurd h1 h2
  have hz:=bS hg
  obtain ⟨n,rfl⟩:∃ n:Nat,N=(n:Int):=⟨N.toNat,aA⟩
  by_cases h3:bd<1∨1024<bd
  ·rw [if_pos h3] at h;cases h
  ·exact ⟨n,rfl,aA,aA,hg,lc_right hg h1,aA,aA⟩
 ·rw [if_pos h1] at h;exact absurd h h1
theorem SizesN_spec (N:Int) (A:Option Addr) (l:List Arc) (cap:Nat) (B:Option Addr) (L:List Int) (cb:Nat) (w:World) (hr:Ro (Fr w []) w A (l.flatMap bZ)) (hl:l.length≤9223372036854775807) (hN:I64 N) (hok:∀ x∈l,eK x) (X:Ro (Fr w []) w B (bF L)) (hm:L.length≤9223372036854775807) (hz:spE N l L 1=0):
    Meets Tryz.prog 116 [.agg #[.int .i64 N,.slice A l.length cap],.slice B L.length cb] w [] (fun u own' =>∃ b,u= .tuple #[.slice (some ⟨b,0,none⟩) (e9 L+1).toNat (e9 L+1).toNat,.int .i64 0]∧own' =[[(b,blk (bF (dZ L)) 3)]]):=by
 obtain ⟨n,rfl,J,Z,hg,Y,_⟩:=spE_zeroN hz
 obtain rfl:L.length=n:=(d6 Y).2
 have O:=e5 Y J
 refine bE Tryz.func116 rfl Tryz.ntmps116 rfl Owns.nil<|aG fun kh1=>f_S (cT rfl rfl fun b2=>?_)
 refine aB 2 rfl<|aD kh1<|aS fun kh2=>aG fun kh3=>f_Q (aO (vs:=[_,_]) Tryz.isAgg24 Tryz.sizeOf24 rfl rfl ⟨(rdA rfl),(rdA rfl),trivial⟩)<|aB 1 rfl ?_
 refine f_S (aV Tryz.call86 rfl (fun U F=>splook_spec (L.length:Int) A B l cap L cb 1 U (hr.up0 F) hl hN hok (X.up0 F) hm) ?_);rintro _ _ ⟨rfl,rfl⟩;rw [hz];dsimp only [aK,aJ];refine aB 1 rfl<|aD kh3<|aG fun kh4=>aB 2 rfl<|aD kh4<|dX rfl aN<|bV kh2<|aG fun kh5=>aB 1 rfl ?_
 refine f_S (aV Tryz.call88 rfl (fun U F=>p9 B L cb U (X.up0 F) aA aA (fun x hx=>by have:=O x hx;omega)) ?_);rintro _ _ ⟨bs,rfl,rfl⟩;dsimp only [aK,aJ];refine aB 2 rfl<|aD kh5<|aY ?_
 exact cZ [[(bs,blk (bF (dZ L)) 3)]] Tryz.results116 rfl rfl aC ⟨bs,rfl,rfl⟩
theorem first_spec (N:Int) (A:Option Addr) (l:List Arc) (cap:Nat) (B:Option Addr) (L:List Int) (cb:Nat) (b:Int) (w:World) (hr:Ro (Fr w []) w A (l.flatMap bZ)) (hl:l.length≤9223372036854775807) (hN:I64 N) (hok:∀ x∈l,eK x) (hL:Ro (Fr w []) w B (bF L)) (hm:L.length≤9223372036854775807) (hg:(cG N l).2=0):
    Meets Tryz.prog 70 [.agg #[.int .i64 N,.slice A l.length cap],.slice B L.length cb,.int .i64 b] w [] (fun u m=>u= .int .i64 (kZ N l L b)∧m=[]):=by
 refine bE Tryz.func70 rfl Tryz.ntmps70 rfl Owns.nil<|aG fun kh1=>f_S (cT rfl rfl fun b3=>?_)
 refine aB 1 rfl<|aD kh1<|aS fun kh2=>aG fun kh3=>f_Q (aO (vs:=[_,_]) Tryz.isAgg24 Tryz.sizeOf24 rfl rfl ⟨(rdA rfl),(rdA rfl),trivial⟩)<|aB 1 rfl ?_
 refine f_S (aV Tryz.call115 rfl (fun Z F=>Count_spec N A B l cap L cb Z (hr.up0 F) hl hN hok (hL.up0 F) hm) ?_);rintro _ _ ⟨rfl,rfl⟩;dsimp only [aK,aJ];refine aB 5 rfl<|aD kh3<|aG fun kh4=>aB 2 rfl<|aD kh4<|aX rfl (fun c18=>?_) (fun c18=>?_)
 ·refine aG fun ab=>aB 2 rfl<|aD ab<|aY<|cV ?_
  exact bJ [] Tryz.results70 rfl aP ⟨by unfold kZ;rw [if_pos (by simpa using c18)],rfl⟩
 ·have O:(fN N l L).2=0:=by simpa using c18
  have hR:=lc_right hg O
  have ah:=bS hg
  have ad:=spE_oneN hg hR (bd:=1) aA
  obtain ⟨n,ac⟩:∃ n:Nat,N=(n:Int):=⟨N.toNat,aA⟩
  have X:eH (n:Int) L=true:=by rw [← ac];exact hR
  have aa:=e5 X aA
  have ae:=(d6 X).2
  have ag:=aa _ (List.getElem_mem (show 0<L.length by omega))
  have J:(dZ L).length=(e9 L+1).toNat:=gO _ _
  refine bV kh2<|aG fun kh6=>f_Q (aO (vs:=[_,_]) Tryz.isAgg24 Tryz.sizeOf24 rfl rfl ⟨(rdA rfl),(rdA rfl),trivial⟩)<|aB 1 rfl ?_
  refine f_S (aV Tryz.call116 rfl (fun Z F=>SizesN_spec N A l cap B L cb Z (hr.up0 F) hl hN hok (hL.up0 F) hm ad) ?_);rintro _ _ ⟨Y,rfl,rfl⟩;dsimp only [aK,aJ];refine aB 5 rfl<|aD kh6<|aS fun kh7=>aG fun kh8=>aB 2 rfl<|aD kh8<|dX rfl aN<|bV kh7<|aS fun kh9=>aG fun kh10=>?_
  refine aB 1 rfl ?_;refine f_S (aV Tryz.call87 rfl (fun Z F=>(by have h:=nV (some ⟨Y,0,none⟩) (dZ L) (e9 L+1).toNat Z (fP (b:=Y) F (cs:=bF (dZ L)) (fun j v hj=>hj)) (by rw [J];omega) (by rw [J];omega);rw [J] at h;exact h)) ?_);rintro _ _ ⟨rfl,rfl⟩;dsimp only [aK,aJ];refine aB 2 rfl<|aD kh10<|aX rfl (fun c32=>?_) (fun c32=>?_)
  ·refine aG fun U=>aB 1 rfl<|aD U<|aY<|cV ?_
   exact bJ [] Tryz.results70 rfl aP ⟨by unfold kZ;rw [if_neg (by rw [O];simp),if_pos aA],rfl⟩
  ·refine bV kh9<|aG fun kh12=>aB 1 rfl<|aD kh12<|aY ?_
   exact bJ [] Tryz.results70 rfl aP ⟨by unfold kZ;rw [if_neg (by rw [O];simp),if_neg aA],rfl⟩
theorem within_spec (B C:Option Addr) (b a:List Int) (cb ca la:Nat) (w:World) (hb:Ro (Fr w []) w B (bF b)) (ha:Ro (Fr w []) w C (bF a)) (ad:a.length=la) (hl:a.length=b.length) (hm:b.length≤1024):
    Meets Tryz.prog 71 [.slice B b.length cb,.slice C la ca] w [] (fun u m=>u= .bool (decide (iN b a))∧m=[]):=by
 subst ad;refine bE Tryz.func71 rfl Tryz.ntmps71 rfl Owns.nil<|aG fun kh1=>aB 1 rfl<|aD kh1<|aG fun kh2=>f_S (iU fun ab=>?_)
 refine aB 1 rfl<|aD kh2<|aS fun kh3=>aG fun ag=>aB 1 rfl<|dU bX rfl<|aB 1 rfl<|aD ag<|aR ?_
 refine dA (α:=Nat×List (Int×Value×Nat)×Nat) [1,5,11,12] (fun ⟨v,ents,F⟩=>[(13,.int .i64 (v:Int))]) (fun ⟨v,ents,F⟩=>[[(ab,e7 (fun x:Int=> .int .i64 x) ents F)]]) (fun ⟨v,ents,F⟩=>v≤b.length∧MOk ents F∧Wi b a v ents) (fun ⟨v,ents,F⟩=>b.length - v) (0,[],0) ?_ ?_ ?_ ?_
 ·exact aF
 ·exact aC
 ·exact ⟨Nat.zero_le _,MOk.nil,Wi.nil b a⟩
 ·rintro ⟨v,ents,F⟩ ⟨ah,hmap,hW⟩;refine aG fun kh5=>aB 1 rfl<|aD kh5<|aS fun kh6=>aX rfl (fun ac=>?_) (fun ac=>?_)
  ·have hv:v<b.length:=aA
   have O:v<a.length:=aA
   obtain ⟨b1,o1,rfl,aa,ae⟩:=hb (fun e=>by have:=a7 b;rw [e] at this;simp at this;omega)
   obtain ⟨b2,o2,rfl,U,J⟩:=ha (fun e=>by have:=a7 a;rw [e] at this;simp at this;omega)
   obtain ⟨p,hp1,hp2,Z⟩:=hW.val hl b[v]
   refine bV kh6<|aS fun kh7=>aR<|aG fun kh8=>aB 1 rfl<|f_Q (aL bX rfl rfl (o1+v))<|f_Q (aH Tryz.isAgg3 rfl (d3 (enc:=(.int .i64 ·)) aa ae hv))<|aB 2 rfl<|aD kh8<|aS fun kh9=>?_
   refine aG fun kh10=>aB 2 rfl<|f_Q (o_lookup2 kt201 Tryz.zeroValue3 rfl rfl rfl (.int .i64 p) hp1 (decide (b[v]∈b.take v)) hp2)<|aB 5 rfl<|aD kh10<|aG fun kh11=>aB 2 rfl<|d8 25 rfl (fun g25=>?_) (fun g25=>?_)
   ·refine aB 3 rfl<|eA rfl rfl (aL bX rfl rfl (o2+v))<|eA rfl rfl (aH Tryz.isAgg3 rfl (d3 (enc:=(.int .i64 ·)) U J O))<|aB 2 rfl<|aD kh11<|aX rfl (fun c32=>?_) (fun c32=>?_)
    ·refine aG fun Y=>aB 1 rfl<|aD Y<|aY<|cV<|fA<|cV<|cV<|fA<|cV ?_
     obtain ⟨u,hu,X,e1,e2⟩:=Z (by simpa using g25)
     exact bJ [] Tryz.results71 rfl aC ⟨by rw [decide_eq_false (not_within hl hu hv e1 aA)],rfl⟩
    ·refine bV kh9<|aI<|aB 4 rfl<|f_Q (aL bX rfl rfl (o2+v))<|f_Q (aH Tryz.isAgg3 rfl (d3 (enc:=(.int .i64 ·)) U J O))<|f_Z (e8 kt201 rfl rfl rfl rfl ?_)
     refine aZ<|dF<|bO kh7<|aI<|f_Q (a8 rfl rfl)<|aB 1 rfl<|aZ ?_
     refine cS (a6 (v+1,fS ents b[v] (.int .i64 a[v]) F,fK ents b[v] F) (by first|omega|(dsimp only;omega)|(simp;omega)) ⟨aA,hmap.put _ _,hW.next hl hv (fun hm=>by obtain ⟨u,hu,X,e1,e2⟩:=Z hm;exact ⟨u,hu,X,e1,aA⟩) _⟩ ?_ ?_ ?_)
     ·exact aF
     ·exact aF
     ·exact aC
   ·refine aB 7 rfl<|aD kh11<|iJ rfl<|bV kh9<|aI<|aB 4 rfl<|f_Q (aL bX rfl rfl (o2+v))<|f_Q (aH Tryz.isAgg3 rfl (d3 (enc:=(.int .i64 ·)) U J O))<|f_Z (e8 kt201 rfl rfl rfl rfl ?_)
    refine aZ<|dF<|bO kh7<|aI<|f_Q (a8 rfl rfl)<|aB 1 rfl<|aZ ?_
    refine cS (a6 (v+1,fS ents b[v] (.int .i64 a[v]) F,fK ents b[v] F) (by first|omega|(dsimp only;omega)|(simp;omega)) ⟨aA,hmap.put _ _,hW.next hl hv (fun hm=>absurd hm (by simpa using g25)) _⟩ ?_ ?_ ?_)
    ·exact aF
    ·exact aF
    ·exact aC
  ·refine cN<|cO<|cO<|eC<|bO kh3<|aG fun kh13=>aB 1 rfl<|aD kh13<|aY ?_
   obtain rfl:v=b.length:=aA
   exact bJ [] Tryz.results71 rfl aC ⟨by rw [decide_eq_true (hW.all hl)],rfl⟩
theorem nbounded_spec (b c:Int) (w:World):
    Meets Tryz.prog 69 [.int .i64 b,.int .i64 c] w [] (fun u m=>u= .bool (decide (c<b∧b≤1024))∧m=[]):=by
 refine bE Tryz.func69 rfl Tryz.ntmps69 rfl Owns.nil<|aG fun kh1=>aB 1 rfl<|aD kh1<|aG fun kh2=>aB 4 rfl<|d8 8 rfl (fun g8=>?_) (fun g8=>?_)
 ·refine aB 4 rfl<|aD kh2<|aY ?_
  exact bJ [] Tryz.results69 rfl aP ⟨by congr 1;apply decide_eq_decide.2;omega,rfl⟩
 ·refine aB 4 rfl<|aD kh2<|aY ?_
  exact bJ [] Tryz.results69 rfl aP ⟨by rw [decide_eq_false aA],rfl⟩
theorem mG (N:Int) (A:Option Addr) (l:List Arc) (cap:Nat) (Ab:Option Addr) (bs:List Int) (cb:Nat) (Ac:Option Addr) (R:List Row) (cc:Nat) (w:World) (hr:Ro (Fr w []) w A (l.flatMap bZ)) (hl:l.length≤9223372036854775807) (hN:I64 N) (hok:∀ x∈l,eK x) (hn:NestRo (Fr w []) w Ab bs Ac R):
    Meets Tryz.prog 38 [.agg #[.int .i64 N,.slice A l.length cap],.agg #[.slice Ab bs.length cb,.slice Ac R.length cc]] w [] (fun u m=>u= .tuple #[.int .i64 (nsE N l bs (bG R)).1,.int .i64 (nsE N l bs (bG R)).2]∧m=[]):=by
 have ax:=d5 R
 refine bE Tryz.func38 rfl Tryz.ntmps38 rfl Owns.nil<|aG fun kh1=>f_S (cT rfl rfl fun b2=>?_)
 refine f_S (cT rfl rfl fun b3=>?_);refine aB 2 rfl<|aD kh1<|aS fun kh2=>aG fun kh3=>f_Q (aO (vs:=[_,_]) Tryz.isAgg24 Tryz.sizeOf24 rfl rfl ⟨(rdA rfl),(rdA rfl),trivial⟩) ?_
 refine f_S (aV Tryz.call20 rfl (fun w_ X=>f3 N A l cap w_ (hr.up0 X) hl hN hok) ?_);rintro _ _ ⟨rfl,rfl⟩;dsimp only [aK,aJ];refine aB 5 rfl<|aD kh3<|aG fun kh4=>aB 2 rfl<|aD kh4<|aX rfl (fun c18=>?_) (fun c18=>?_)
 ·refine aG fun am=>aB 3 rfl<|aD am<|aY<|cV ?_
  have e:nsE N l bs (bG R)=(0,(cG N l).2):=by unfold nsE;rw [if_pos (by simpa using c18)]
  exact cZ [] Tryz.results38 rfl rfl aP ⟨by rw [e],rfl⟩
 ·have hg:(cG N l).2=0:=by simpa using c18
  have aw:=bS hg
  refine bV kh2<|aS fun kh6=>aG fun kh7=>cL fa34_0 rfl<|cX Tryz.isAgg25 rfl (rdA rfl)<|dU bX rfl<|aB 2 rfl<|d8 24 rfl (fun g24=>?_) (fun g24=>?_)
  ·refine aB 14 rfl<|aD kh7<|fI rfl<|aG fun kh8=>aB 2 rfl<|aD kh8<|aY<|cV ?_
   have e:nsE N l bs (bG R)=(0,111):=by unfold nsE;rw [if_neg (by rw [hg];simp),if_pos aA]
   exact cZ [] Tryz.results38 rfl rfl aP ⟨by rw [e],rfl⟩
  ·refine eA rfl rfl (aT fa34_0 rfl)<|eA rfl rfl (aH Tryz.isAgg25 rfl (rdA rfl))<|eA rfl rfl (iH bX rfl)<|aB 3 rfl<|d8 30 rfl (fun g30=>?_) (fun g30=>?_)
   ·refine aB 8 rfl<|aD kh7<|fI rfl<|aG fun kh9=>aB 2 rfl<|aD kh9<|aY<|cV ?_
    have e:nsE N l bs (bG R)=(0,111):=by unfold nsE;rw [if_neg (by rw [hg];simp),if_pos aA]
    exact cZ [] Tryz.results38 rfl rfl aP ⟨by rw [e],rfl⟩
   ·refine eA rfl rfl (aT jD rfl)<|eA rfl rfl (aH Tryz.isAgg32 rfl (rdA rfl))<|eA rfl rfl (iH gL rfl)<|eA rfl rfl (aT fa34_0 rfl)<|eA rfl rfl (aH Tryz.isAgg25 rfl (rdA rfl))<|eA rfl rfl (iH bX rfl)<|aB 2 rfl<|aD kh7<|aX rfl (fun c38=>?_) (fun c38=>?_)
    ·refine aG fun ah=>aB 2 rfl<|aD ah<|aY<|cV ?_
     have e:nsE N l bs (bG R)=(0,111):=by unfold nsE;rw [if_neg (by rw [hg];simp),if_pos aA]
     exact cZ [] Tryz.results38 rfl rfl aP ⟨by rw [e],rfl⟩
    ·have Z:¬ (bs.length<1∨5<bs.length∨(bG R).length≠bs.length):=aA
     have av:R.length=bs.length:=aA
     refine bV kh6<|aG fun kh11=>aB 1 rfl<|aD kh11<|aS fun kh12=>aG fun ad=>cL fa34_0 rfl<|cX Tryz.isAgg25 rfl (rdA rfl)<|dU bX rfl<|aB 1 rfl ?_
     refine aD ad<|aR ?_
     refine dA (α:=Nat) [2,3,40,41] (fun k=>[(42,.int .i64 (k:Int)),(8,.int .i64 (mZ bs k))]) (fun k=>[[(b2,blk [.int .i64 N,.slice A l.length cap] 24)],[(b3,blk [.slice Ab bs.length cb,.slice Ac R.length cc] 34)]]) (fun k=>k≤bs.length∧∀ j,j<k→lvE N l bs (bG R) j=0) (fun k=>bs.length - k) (0) ?_ ?_ ?_ ?_
     ·exact aF
     ·exact aC
     ·exact ⟨Nat.zero_le _,fun j h=>aA⟩
     ·rintro k ⟨au,U⟩;refine aG fun kh14=>aB 1 rfl<|aD kh14<|aS fun kh15=>aX rfl (fun ap=>?_) (fun ap=>?_)
      ·have hk:k<bs.length:=aA
       have F:k<R.length:=aA
       obtain ⟨b1,o1,rfl,aj,aq⟩:=hn.b (fun e=>by have:=a7 bs;rw [e] at this;simp at this;omega)
       obtain ⟨b2,o2,rfl,ac,ab⟩:=hn.c (fX F)
       have J : lvE N l bs (bG R) k = if bs[k] ≤ mZ bs k ∨ 1024 < bs[k] then 1 else if kZ N l (R[k]'F).2.1 bs[k] ≠ 0 then kZ N l (R[k]'F).2.1 bs[k] else if 0 < k ∧ ¬ iN ((bG R).getD (k - 1) []) (R[k]'F).2.1 then 110 else 0 := by unfold lvE; rw [bs_at hk, iF F]
       refine bV kh15<|aS fun kh16=>aR<|aG fun kh17=>aB 1 rfl<|f_Q (aL bX rfl rfl (o1+k))<|f_Q (aH Tryz.isAgg3 rfl (d3 (enc:=(.int .i64 ·)) aj aq hk))<|aB 2 rfl<|aD kh17<|aS fun kh18=>?_
       refine aG fun kh19=>aB 2 rfl ?_;refine f_S (aV Tryz.call69 rfl (fun w_ X=>nbounded_spec bs[k] (mZ bs k) w_) ?_);rintro _ _ ⟨rfl,rfl⟩;dsimp only [aK,aJ];refine aB 1 rfl<|aD kh19<|eO rfl (fun c50=>?_) (fun c50=>?_)
       ·have aa:bs[k]≤mZ bs k∨1024<bs[k]:=by simp at c50;omega
        refine aG fun ae=>aB 1 rfl<|f_Q (a8 rfl rfl)<|aB 2 rfl<|aD ae<|aY<|cV<|fA<|cV<|cV ?_
        refine fA<|cV ?_
        have e:=nsE_at hg Z hk U (by rw [J,if_pos aa];decide)
        exact cZ [] Tryz.results38 rfl rfl aP ⟨by rw [e,J,if_pos aa],rfl⟩
       ·have aa:¬ (bs[k]≤mZ bs k∨1024<bs[k]):=by simp at c50;omega
        rw [if_neg aa] at J;refine bV kh18<|aG fun kh21=>aB 2 rfl<|aD kh21<|aS fun kh22=>aS fun kh23=>gG 7 rfl aW<|dB (aO (vs:=[_,_]) Tryz.isAgg24 Tryz.sizeOf24 rfl rfl ⟨(rdA rfl),(rdA rfl),trivial⟩)<|dB (aT jD rfl)<|gC Tryz.isAgg32 rfl (rdA rfl) ?_
        refine dI 1 rfl<|dB (aL gL rfl rfl (o2+k))<|dB (aH Tryz.isAgg25 rfl (d3 (enc:=fG) ac ab F))<|dI 1 rfl<|eI (iX ?_)
        refine f_S (aV Tryz.call70 rfl (fun w_ X => first_spec N A l cap (R[k]'F).1 (R[k]'F).2.1 (R[k]'F).2.2 bs[k] w_ (hr.up0 X) hl hN hok ((hn.rows _ (List.getElem_mem F)).1.up0 X) (hn.rows _ (List.getElem_mem F)).2 hg) ?_);rintro _ _ ⟨rfl, rfl⟩;dsimp only [aK, aJ];refine aB 1 rfl <| aD kh23 <| aG fun kh24 => aB 2 rfl <| aD kh24 <| aX rfl (fun c63 => ?_) (fun c63 => ?_)
        ·have Y : kZ N l (R[k]'F).2.1 bs[k] ≠ 0 := by simpa using c63
         rw [if_pos Y] at J;refine aG fun ai=>aB 1 rfl<|f_Q (a8 rfl rfl)<|aB 3 rfl<|aD ai<|aY<|cV<|fA<|cV<|cV ?_
         refine fA<|cV ?_
         have e:=nsE_at hg Z hk U (by rw [J];exact Y)
         exact cZ [] Tryz.results38 rfl rfl aP ⟨by rw [e,J],rfl⟩
        ·have Y : kZ N l (R[k]'F).2.1 bs[k] = 0 := by simpa using c63
         rw [if_neg (by rw [Y];simp)] at J;refine bV kh22<|aS fun kh26=>gG 14 rfl aW<|dI 3 rfl<|f_splitS 69 rfl (fun g69=>?_) (fun g69=>?_)
         ·have ar:0<k:=aA
          have O:k - 1<R.length:=aA
          obtain ⟨n,rfl⟩:∃ n:Nat,N=(n:Int):=⟨N.toNat,aA⟩
          have an : (R[k]'F).2.1.length = n := by
            unfold kZ at Y
            by_cases h1 : (fN (n : Int) l (R[k]'F).2.1).2 = 0
            ·exact (d6 (lc_right hg h1)).2
            ·rw [if_pos h1] at Y;exact absurd Y h1
          have ak : (R[k - 1]'O).2.1.length = n := by
            have h2:=((l4 hg).1 (U (k - 1) aA)).2.1
            rw [iF O] at h2;exact (d6 h2).2
          refine dQ rfl rfl rfl rfl rfl (aT jD rfl)<|dQ rfl rfl rfl rfl rfl (aH Tryz.isAgg32 rfl (rdA rfl))<|dI 1 rfl<|dQ rfl rfl rfl rfl rfl (kM rfl rfl _ (Eq.trans (d7 aA) (show _=((k - 1:Nat):Int) by omega))) ?_;refine dQ rfl rfl rfl rfl rfl (aL gL rfl rfl (o2+(k - 1)))<|dQ rfl rfl rfl rfl rfl (aH Tryz.isAgg25 rfl (d3 (enc:=fG) ac ab O))<|dQ rfl rfl rfl rfl rfl (aT jD rfl)<|dQ rfl rfl rfl rfl rfl (aH Tryz.isAgg32 rfl (rdA rfl))<|dI 1 rfl<|dQ rfl rfl rfl rfl rfl (aL gL rfl rfl (o2+k))<|dQ rfl rfl rfl rfl rfl (aH Tryz.isAgg25 rfl (d3 (enc:=fG) ac ab F))<|eI (iX ?_)
          refine jY rfl rfl rfl rfl rfl (aV Tryz.call71 rfl (fun w_ X => within_spec (R[k - 1]'O).1 (R[k]'F).1 (R[k - 1]'O).2.1 (R[k]'F).2.1 (R[k - 1]'O).2.2 (R[k]'F).2.2 (R[k]'F).2.1.length w_ ((hn.rows _ (List.getElem_mem O)).1.up0 X) ((hn.rows _ (List.getElem_mem F)).1.up0 X) rfl aA aA) ?_);rintro _ _ ⟨rfl, rfl⟩;dsimp only [aK, aJ];refine aB 2 rfl <| aD kh26 <| eO rfl (fun c83 => ?_) (fun c83 => ?_)
          ·have al : ¬ iN (R[k - 1]'O).2.1 (R[k]'F).2.1 := by simpa using c83
           rw [if_pos ⟨ar,by rw [iF O];exact al⟩] at J;refine aG fun ag=>aB 1 rfl<|f_Q (a8 rfl rfl)<|aB 2 rfl<|aD ag<|aY<|fA<|cV<|cV<|fA ?_
           refine cV ?_;have e:=nsE_at hg Z hk U (by rw [J];decide)
           exact cZ [] Tryz.results38 rfl rfl aP ⟨by rw [e,J],rfl⟩
          ·have ao : iN (R[k - 1]'O).2.1 (R[k]'F).2.1 := by simpa using c83
           rw [if_neg (fun h=>h.2 (by rw [iF O];exact ao))] at J;refine dY<|dF<|bO kh16<|aI<|f_Q (a8 rfl rfl)<|aB 1 rfl<|aZ<|f_reQ 8 rfl (v:= .int .i64 (mZ bs (k+1))) (by show _=Value.int .i64 (bs.getD k 0);rw [bs_at hk]) ?_
           refine cS (a6 (k+1) (by first|omega|(dsimp only;omega)|(simp;omega)) ⟨aA,fun j hj=>by
             by_cases e:j=k
             ·subst e;rw [J]
             ·exact U j aA⟩ ?_ ?_ ?_)
           ·exact aF
           ·exact aF
           ·exact aC
         ·rw [if_neg (fun h=>aA)] at J;refine dI 11 rfl<|eI (iX ?_)
          refine aB 3 rfl<|aD kh26<|iJ rfl<|dY<|dF<|bO kh16<|aI<|f_Q (a8 rfl rfl)<|aB 1 rfl<|aZ ?_
          refine f_reQ 8 rfl (v:= .int .i64 (mZ bs (k+1))) (by show _=Value.int .i64 (bs.getD k 0);rw [bs_at hk]) ?_
          refine cS (a6 (k+1) (by first|omega|(dsimp only;omega)|(simp;omega)) ⟨aA,fun j hj=>by
            by_cases e:j=k
            ·subst e;rw [J]
            ·exact U j aA⟩ ?_ ?_ ?_)
          ·exact aF
          ·exact aF
          ·exact aC
      ·refine cN<|cO<|cO<|eC<|bO kh12<|aG fun kh28=>aB 2 rfl<|aD kh28<|aY ?_
       have e:=nsE_none hg Z (fun j hj=>U j aA)
       exact cZ [] Tryz.results38 rfl rfl aP ⟨by rw [e],rfl⟩
theorem at_spec (J:Option Addr) (bs:List Int) (cb:Nat) (F:Option Addr) (R:List Row) (cc:Nat) (q:Nat) (w:World) (hn:NestRo (Fr w []) w J bs F R) (hq:q<R.length):
    Meets Tryz.prog 152 [.agg #[.slice J bs.length cb,.slice F R.length cc],.int .i64 ((q:Int)+1)] w [] (fun u m=>u= .agg #[fG R[q],.int .i64 ((q:Int)+1)]∧m=[]):=by
 obtain ⟨Y,O,rfl,X,hc⟩:=hn.c (fX hq)
 have U:=hn.cl
 refine bE Tryz.func152 rfl Tryz.ntmps152 rfl Owns.nil<|aG fun kh1=>f_S (cT rfl rfl fun Z=>?_)
 refine f_S (cQ Tryz.zeroValue171 rfl fun b4=>?_);refine aD kh1<|aG fun kh2=>cL jD rfl<|cX Tryz.isAgg32 rfl (rdA rfl)<|aB 1 rfl<|f_Q (kM rfl rfl _ (Eq.trans (d7 aA) (show _=(q:Int) by omega))) ?_
 refine f_Q (aL gL rfl rfl (O+q))<|f_Q (aH Tryz.isAgg25 rfl (d3 (enc:=fG) X hc hq))<|aB 1 rfl<|f_Q (dL (cs:=[fG R[q],.int .i64 ((q:Int)+1)]) st171 rfl rfl)<|f_Z (bP Tryz.sizeOf171 rfl rfl rfl rfl cF [fG R[q],.int .i64 ((q:Int)+1)] rfl ?_)
 refine aD kh2<|aY ?_
 exact f_finR1 [] Tryz.results152 (rvA (vs:=[fG R[q],.int .i64 ((q:Int)+1)]) Tryz.isAgg171 Tryz.sizeOf171 rfl rfl ⟨(rdA rfl),(rdA rfl),trivial⟩) aC ⟨rfl,rfl⟩
theorem nlooked_spec (N:Int) (A:Option Addr) (l:List Arc) (cap:Nat) (U:Option Addr) (bs:List Int) (cb:Nat) (X:Option Addr) (R:List Row) (cc:Nat) (q:Int) (w:World) (hr:Ro (Fr w []) w A (l.flatMap bZ)) (hl:l.length≤9223372036854775807) (hN:I64 N) (hok:∀ x∈l,eK x) (hn:NestRo (Fr w []) w U bs X R):
    Meets Tryz.prog 117 [.agg #[.int .i64 N,.slice A l.length cap],.agg #[.slice U bs.length cb,.slice X R.length cc],.int .i64 q] w [] (fun u m=>∃ (r:Row) (x:Int),u= .tuple #[.agg #[fG r,.int .i64 x],.int .i64 (lkE N l bs (bG R) q)]∧m=[]∧(lkE N l bs (bG R) q=0→x=q∧R[(q - 1).toNat]? =some r)):=by
 have ae:=d5 R
 refine bE Tryz.func117 rfl Tryz.ntmps117 rfl Owns.nil<|aG fun kh1=>f_S (cT rfl rfl fun b3=>?_)
 refine f_S (cT rfl rfl fun b4=>?_);refine f_S (cQ Tryz.zeroValue171 rfl fun b6=>?_);refine aB 1 rfl<|aD kh1<|aS fun kh2=>aG fun kh3=>f_Q (aO (vs:=[_,_]) Tryz.isAgg24 Tryz.sizeOf24 rfl rfl ⟨(rdA rfl),(rdA rfl),trivial⟩)<|f_Q (aO (vs:=[_,_]) Tryz.isAgg34 Tryz.sizeOf34 rfl rfl ⟨(rdA rfl),(rdA rfl),trivial⟩) ?_
 refine f_S (aV Tryz.call38 rfl (fun w_ F=>mG N A l cap U bs cb X R cc w_ (hr.up0 F) hl hN hok (hn.up0 F)) ?_);rintro _ _ ⟨rfl,rfl⟩;dsimp only [aK,aJ];refine aB 5 rfl<|aD kh3<|aG fun kh4=>aB 2 rfl<|aD kh4<|aX rfl (fun c17=>?_) (fun c17=>?_)
 ·refine aG fun aa=>f_Q (dL (cs:=[fG (none,[],0),.int .i64 0]) st171 rfl rfl)<|aB 1 rfl<|f_Z (bP Tryz.sizeOf171 rfl rfl rfl rfl cF [fG (none,[],0),.int .i64 0] rfl ?_)
  refine aB 1 rfl<|aD aa<|aY<|cV ?_
  have e:lkE N l bs (bG R) q=(nsE N l bs (bG R)).2:=by unfold lkE;rw [if_pos (by simpa using c17)]
  exact gW (vs:=[fG (none,[],0),.int .i64 0]) [] Tryz.results117 rfl Tryz.isAgg171 Tryz.sizeOf171 rfl ⟨(rdA rfl),(rdA rfl),trivial⟩ rfl aC ⟨(none,[],0),0,by rw [e],rfl,fun h=>absurd (e.symm.trans h) (by simpa using c17)⟩
 ·refine bV kh2<|aS fun kh6=>aG fun kh7=>aB 3 rfl<|d8 22 rfl (fun g22=>?_) (fun g22=>?_)
  ·refine aB 6 rfl<|aD kh7<|fI rfl<|aG fun kh8=>f_Q (dL (cs:=[fG (none,[],0),.int .i64 0]) st171 rfl rfl)<|f_Z (bP Tryz.sizeOf171 rfl rfl rfl rfl cF [fG (none,[],0),.int .i64 0] rfl ?_)
   refine aB 1 rfl<|aD kh8<|aY<|cV ?_
   have e:lkE N l bs (bG R) q=111:=by unfold lkE;rw [if_neg (by simpa using c17),if_pos aA]
   exact gW (vs:=[fG (none,[],0),.int .i64 0]) [] Tryz.results117 rfl Tryz.isAgg171 Tryz.sizeOf171 rfl ⟨(rdA rfl),(rdA rfl),trivial⟩ rfl aC ⟨(none,[],0),0,by rw [e],rfl,fun h=>absurd (e.symm.trans h) (by decide)⟩
  ·refine aB 1 rfl<|eA rfl rfl (aT fa34_0 rfl)<|eA rfl rfl (aH Tryz.isAgg25 rfl (rdA rfl))<|eA rfl rfl (iH bX rfl)<|aB 2 rfl<|aD kh7<|aX rfl (fun c28=>?_) (fun c28=>?_)
   ·refine aG fun Z=>f_Q (dL (cs:=[fG (none,[],0),.int .i64 0]) st171 rfl rfl)<|f_Z (bP Tryz.sizeOf171 rfl rfl rfl rfl cF [fG (none,[],0),.int .i64 0] rfl ?_)
    refine aB 1 rfl<|aD Z<|aY<|cV ?_
    have e:lkE N l bs (bG R) q=111:=by unfold lkE;rw [if_neg (by simpa using c17),if_pos aA]
    exact gW (vs:=[fG (none,[],0),.int .i64 0]) [] Tryz.results117 rfl Tryz.isAgg171 Tryz.sizeOf171 rfl ⟨(rdA rfl),(rdA rfl),trivial⟩ rfl aC ⟨(none,[],0),0,by rw [e],rfl,fun h=>absurd (e.symm.trans h) (by decide)⟩
   ·have hz:(nsE N l bs (bG R)).2=0:=by simpa using c17
    obtain ⟨n,rfl,Y⟩:=nsE_zero hz
    have ac:=Y.len
    have ab:lkE (n:Int) l bs (bG R) q=0:=by unfold lkE;rw [if_neg (by rw [hz];simp),if_neg aA]
    obtain ⟨J,ad⟩:∃ J:Nat,q=(J:Int)+1:=⟨(q - 1).toNat,aA⟩
    have O:J<R.length:=aA
    refine bV kh6<|aG fun kh10=>f_Q (aO (vs:=[_,_]) Tryz.isAgg34 Tryz.sizeOf34 rfl rfl ⟨(rdA rfl),(rdA rfl),trivial⟩)<|aB 1 rfl ?_
    refine f_S (aV Tryz.call152 rfl (fun w_ F=>(by have h:=at_spec U bs cb X R cc J w_ (hn.up0 F) O;rw [show ((J:Int)+1)=q by omega] at h;exact h)) ?_);rintro _ _ ⟨rfl,rfl⟩;dsimp only [aK,aJ];refine f_Z (bP Tryz.sizeOf171 rfl rfl rfl rfl cF [fG R[J],.int .i64 q] rfl ?_);refine aB 1 rfl<|aD kh10<|aY ?_
    exact gW (vs:=[fG R[J],.int .i64 q]) [] Tryz.results117 rfl Tryz.isAgg171 Tryz.sizeOf171 rfl ⟨(rdA rfl),(rdA rfl),trivial⟩ rfl aC ⟨R[J],q,by rw [ab],rfl,fun _=>⟨rfl,by rw [show (q - 1).toNat=J by omega,List.getElem?_eq_getElem O]⟩⟩
end Go.Proofs.YthpkelafioikaaaGreat
namespace Go.Proofs.YthpkelafioikaaaGreat.Fly
open Go Go.RowKit
set_option linter.unusedVariables false
set_option linter.unusedSectionVars false
section
variable {P:Program} {n:Nat} {S:Nat→Prop} {w0:World} {env:Env} {segs:List Seg} {d:Option Tmp} {ty:TypeId} {pos:String} {af:Array Edge} {g:Option (Nat×Bool)}
end
end Go.Proofs.YthpkelafioikaaaGreat.Fly
namespace Go.Proofs.YthpkelafioikaaaGreat
open Go Go.RowKit Fly
set_option maxRecDepth 100000
set_option maxHeartbeats 4000000
set_option linter.all false
theorem ints_zero {d:List Int} {i:Nat} (hi:i≤d.length) (sp:List Value):jF (bF d++sp) i (List.replicate (d.length - i) [Value.int .i64 0]).flatten=bF (d.take i)++(bF (List.replicate (d.length - i) 0)++sp):=by
 have e:bF d++sp=bF (d.take i)++(bF (d.drop i)++sp):=by rw [← List.append_assoc,← eJ,List.take_append_drop]
 have e2:(List.replicate (d.length - i) [Value.int .i64 0]).flatten=bF (List.replicate (d.length - i) 0):=by
  generalize d.length - i=q
  induction q with
  |zero=>rfl
  |succ q ih=>simp only [List.replicate_succ,List.flatten_cons,ih];rfl
 rw [e,e2];exact kQ _ _ _ _ _ (by rw [a7,List.length_take,Nat.min_eq_left hi]) (by rw [a7,a7];simp)
theorem intsG {l:List Int} {i:Nat} (h:i<l.length) {x:Int} (e:l[i]=x):(bF l)[i]? =some (.int .i64 x):=by rw [eG h,e]
theorem cpt_put {l d : List Int} {i j : Nat} (hj : j < l.length) (J : i < j) (hd : d.length = l.length) (O : d.take i = cpt (l.take j)) (F : d.drop (j - 1) = l.drop (j - 1)) (hne : l[j] ≠ l[j - 1]'aA) :
  (d.set i l[j]).take (i+1)=cpt (l.take (j+1))∧(d.set i l[j]).drop j=l.drop j:=by
 refine ⟨?_,?_⟩
 ·rw [mE aA hj,if_neg (fun e=>hne e.symm),← O,List.take_succ_eq_append_getElem (show i<(d.set i l[j]).length by simp;omega),List.getElem_set_self,List.take_set_of_le (Nat.le_refl _)]
 ·rw [List.drop_set_of_lt J]
  have:=congrArg (List.drop 1) F
  rw [List.drop_drop,List.drop_drop,show j - 1+1=j by omega] at this;exact this
theorem cpt_pass {l d : List Int} {i j : Nat} (hj : j < l.length) (J : 0 < j) (O : d.take i = cpt (l.take j)) (F : d.drop (j - 1) = l.drop (j - 1)) (he : l[j] = l[j - 1]'aA) : d.take i = cpt (l.take (j + 1)) ∧ d.drop j = l.drop j := by
 refine ⟨by rw [mE J hj,if_pos he.symm];exact O,?_⟩;have:=congrArg (List.drop 1) F
 rw [List.drop_drop,List.drop_drop,show j - 1+1=j by omega] at this;exact this
theorem drop_get {l d : List Int} {i j : Nat} (hd : d.length = l.length) (h : d.drop i = l.drop i) (F : i ≤ j) (hj : j < l.length) : d[j]'aA = l[j] := by
 have:=congrArg (fun x=>x[j - i]?) h
 simp only [List.getElem?_drop,show i+(j - i)=j by omega] at this;rw [List.getElem?_eq_getElem aA,List.getElem?_eq_getElem hj] at this;exact Option.some.inj this
theorem k8 (A:Option Addr) (cap:Nat) (l:List Int) (m:Seg) (w:World) (ho:Own 3 1 (.slice A l.length cap) l.length (bF l) m) (hl:l.length≤1000000000) (hw:Owns w [m]):
    Meets Tryz.prog 24 [.slice A l.length cap] w [m] (fun u own' =>∃ m',own' =[m']∧Own 3 1 u (cpt l).length (bF (cpt l)) m'):=by
 refine bE Tryz.func24 rfl Tryz.ntmps24 rfl hw<|aG fun kh1=>aB 1 rfl<|aD kh1<|aS fun kh2=>aG fun kh3=>aB 1 rfl<|dU bX rfl<|aB 1 rfl<|aD kh3<|aX rfl (fun c8=>?_) (fun c8=>?_)
 ·
  have Y:cpt l=l:=by
    match l,c8 with
    |[],_=>rfl
    |[x],_=>rfl
    |x::y::r,h=>simp at h;omega
  refine aG fun ak=>aB 2 rfl<|aD ak<|aY<|cV ?_
  exact bJ [m] Tryz.results24 rfl (aM aP) ⟨m,rfl,by rw [Y];exact ho⟩
 ·
  obtain ⟨b,sp,rfl,rfl,ar⟩:=ho.upd aA
  obtain ⟨_,_,e_,am⟩:=ho.val
  cases e_
  have ad:sp.length=cap - l.length:=by
    obtain ⟨_,h|⟨b',c',aj,e,hm,_,_,h3⟩⟩:=ho
    · omega
    · cases e
      have:=List.append_cancel_left (Array.toList_inj.2 (show (bF l++sp).toArray=(bF l++aj).toArray by simpa using hm))
      rw [this];omega
  refine bV kh2<|aS fun kh5=>aG fun ah=>aB 1 rfl<|aD ah<|aR ?_
  refine lU (α:=Nat) [0] (fun k=>[(3,.int .i64 (k:Int))]) (fun k=>1≤k∧k≤l.length∧cpt (l.take k)=l.take k) (fun k=>l.length - k) (1) ?_ ?_ ?_
  · exact aF
  · exact ⟨Nat.le_refl _,aA,cpt_one aA⟩
  ·
   rintro k ⟨aq,an,X⟩;refine aS fun ai=>aG fun kh8=>aB 2 rfl<|dU bX rfl<|aB 1 rfl<|aD kh8<|aX rfl (fun c13=>?_) (fun c13=>?_)
   ·
    refine bV ai<|aS fun kh9=>aR<|aS fun kh10=>gV rfl aW<|dI 2 rfl ?_
    have hk:k<l.length:=aA
    refine dB (aL bX rfl rfl (k))<|dB (aH Tryz.isAgg3 rfl (rdA (eF (eG hk))))<|dI 2 rfl<|dB (jC rfl rfl)<|dB (aL bX rfl rfl (k - 1))<|dB (aH Tryz.isAgg3 rfl (rdA (eF (eG aA))))<|dI 1 rfl<|eI<|bO kh10<|aX rfl (fun c25=>?_) (fun c25=>?_)
    ·
     refine aG fun kh11=>aB 2 rfl<|f_Q (f7 bX rfl rfl rfl rfl (fun h=>by cases h) k _ _ (.inr ⟨_,_,rfl,aA⟩) (.inl ⟨rfl,rfl⟩) (.inl ⟨rfl,rfl⟩) ⟨aA,aA,aA⟩ (.slice (some ⟨b,k,none⟩) (l.length - k) (cap - k)) (by rw [if_neg aA];simp [dG])) ?_
     refine aB 1 rfl<|aD kh11<|aS fun kh12=>aG fun Z=>aB 1 rfl<|aD Z<|aR ?_
     refine dA (α:=Nat×Nat×List Int) [0,4] (fun ⟨q,i,d⟩=>[(5,.int .i64 (q:Int)),(3,.int .i64 (i:Int))]) (fun ⟨q,i,d⟩=>[[(b,blk (bF d++sp) 3)]]) (fun ⟨q,i,d⟩=>1≤q∧k+q≤l.length∧i<k+q∧d.length=l.length∧d.take i=cpt (l.take (k+q))∧d.drop (k+q - 1)=l.drop (k+q - 1)) (fun ⟨q,i,d⟩=>l.length - (k+q)) (1,k,l) ?_ ?_ ?_ ?_
     · exact aF
     · exact aC
     · exact ⟨Nat.le_refl _,aA,aA,rfl,by rw [mE aA hk,if_pos c25.symm,X],rfl⟩
     ·
      rintro ⟨q,i,d⟩ ⟨ap,ao,ab,F,J,O⟩;refine fF (e:=[(5,_),(3,_),(0,_),(4,_)]) aF ?_;refine aS fun ae=>aG fun kh15=>aB 2 rfl<|dU bX rfl<|aB 1 rfl<|aD kh15<|aX rfl (fun c32=>?_) (fun c32=>?_)
      ·
       refine bV ae<|aS fun kh16=>aR<|aS fun kh17=>?_
       have U:k+q<l.length:=aA
       have aa:=drop_get F O (j:=k+q) aA U
       have al:=drop_get F O (j:=k+q - 1) (Nat.le_refl _) aA
       refine gV rfl aW<|dI 2 rfl<|dB (aL bX rfl rfl (k+q))<|dB (aH Tryz.isAgg3 rfl (rdA (eF (intsG aA aa))))<|dI 2 rfl<|dB (jC rfl rfl)<|dB (aL bX rfl rfl (k+q - 1))<|dB (aH Tryz.isAgg3 rfl (rdA (eF (intsG aA al))))<|dI 1 rfl<|eI ?_
       refine bO kh17<|aX rfl (fun c44=>?_) (fun c44=>?_)
       ·
        refine aG fun ac=>aB 4 rfl<|f_Q (aL bX rfl rfl (k+q))<|f_Q (aH Tryz.isAgg3 rfl (rdA (eF (intsG aA aa))))<|f_Q (aL bX rfl rfl (i))<|f_Z (bU Tryz.sizeOf3 rfl rfl rfl rfl (by rw [List.length_append,a7];omega) (bF (d.set i l[k+q])++sp) (by rw [List.set_append_left _ _ (by rw [a7];omega)];simp [bF,List.map_set]) ?_)
        refine aD ac<|aI<|aB 1 rfl<|f_Q (a8 rfl rfl)<|aB 1 rfl<|aZ<|dF<|bO kh16<|aI<|aB 1 rfl ?_
        refine f_Q (a8 rfl rfl)<|aB 1 rfl<|aZ ?_
        refine cS (a6 (q+1,i+1,d.set i l[k+q]) (by first|omega|(dsimp only;omega)|(simp;omega)) ⟨aA,aA,aA,by simpa using F,(cpt_put U ab F J O aA).1,(cpt_put U ab F J O aA).2⟩ ?_ ?_ ?_)
        · exact aF
        · exact aF
        · exact aC
       ·
        refine dY<|dF<|bO kh16<|aI<|aB 1 rfl<|f_Q (a8 rfl rfl)<|aB 1 rfl<|aZ ?_
        refine cS (a6 (q+1,i,d) (by first|omega|(dsimp only;omega)|(simp;omega)) ⟨aA,aA,aA,F,(cpt_pass U aA J O aA).1,(cpt_pass U aA J O aA).2⟩ ?_ ?_ ?_)
        · exact aF
        · exact aF
        · exact aC
      ·
       refine cN<|cO<|cO<|eC<|bO kh12<|aS fun kh19=>?_
       obtain rfl:q=l.length - k:=aA
       rw [show k+(l.length - k)=l.length by omega,List.take_length] at J;have ag:(cpt l).length=i:=by rw [← J];simp;omega
       refine aI<|aB 2 rfl<|f_Q (f7 bX rfl rfl rfl rfl (fun h=>by cases h) i _ _ (.inr ⟨_,_,rfl,aA⟩) (.inl ⟨rfl,rfl⟩) (.inl ⟨rfl,rfl⟩) ⟨aA,aA,aA⟩ (.slice (some ⟨b,i,none⟩) (l.length - i) (cap - i)) (by rw [if_neg aA];simp [dG])) ?_
       refine f_Z (o_clear eL rfl rfl (by rw [List.length_append,a7];omega) (bF (d.take i)++(bF (List.replicate (d.length - i) 0)++sp)) (by rw [← F];exact ints_zero aA sp) ?_);refine aD kh19<|aG fun kh20=>aB 2 rfl<|f_Q (f7 bX rfl rfl rfl rfl (fun h=>by cases h) 0 i cap (.inl ⟨rfl,rfl⟩) (.inr ⟨_,_,rfl,aA⟩) (.inl ⟨rfl,rfl⟩) ⟨aA,aA,aA⟩ (.slice (some ⟨b,0,none⟩) i cap) (by rw [if_neg aA];simp [dG])) ?_
       refine aB 1 rfl<|aD kh20<|aY<|fA<|cV<|cV<|fA<|cV ?_
       exact bJ [[(b,blk (bF (d.take i)++(bF (List.replicate (d.length - i) 0)++sp)) 3)]] Tryz.results24 rfl (by repeat (first|exact aP|refine aM ?_)) ⟨_,rfl,by rw [ag,← J];exact ⟨by rw [a7];simp;omega,.inr ⟨b,cap,_,rfl,rfl,aA,aA,by rw [List.length_append,a7,List.length_replicate,ad];omega⟩⟩⟩
    ·
     refine dY<|dF<|bO kh9<|aI<|aB 1 rfl<|f_Q (a8 rfl rfl)<|aB 1 rfl<|aZ ?_
     refine cS (a6 (k+1) (by first|omega|(dsimp only;omega)|(simp;omega)) ⟨aA,aA,by rw [mE aA hk,if_neg (fun e=>c25 e.symm),X,← List.take_succ_eq_append_getElem hk]⟩ ?_ ?_ ?_)
     · exact aF
     · exact aF
     · exact aC
   ·
    refine cN<|cO<|cO<|eC<|bO kh5<|aG fun kh21=>aB 2 rfl<|aD kh21<|aY ?_
    have Y:cpt l=l:=by rw [List.take_of_length_le aA] at X;exact X
    exact bJ [[(b,blk (bF l++sp) 3)]] Tryz.results24 rfl (by repeat (first|exact aP|refine aM ?_)) ⟨_,rfl,by rw [Y];exact ho⟩
theorem Clip_spec (A:Option Addr) (len cap:Nat) (w:World) (h:len≤cap) (hm:cap≤9223372036854775807) (hA:A=none→len=0):
    Meets Tryz.prog 159 [.slice A len cap] w [] (fun u m=>u= .slice A len len∧m=[]):=by
 refine bE Tryz.func159 rfl Tryz.ntmps159 rfl Owns.nil<|aG fun kh1=>aB 1 rfl<|aD kh1<|aG fun kh2=>aB 2 rfl<|dU bX rfl<|aB 1 rfl<|dU bX rfl<|f_Q (f7 bX rfl rfl rfl rfl (fun _=>rfl) 0 len len (.inl ⟨rfl,rfl⟩) (.inr ⟨_,_,rfl,aA⟩) (.inr ⟨_,_,rfl,aA⟩) ⟨aA,aA,aA⟩ (.slice A len len) (by rw [Nat.sub_zero];congr 1;split;rfl;cases A with|none=>rfl|some x=>obtain ⟨p,q,r⟩:=x;cases r<;>simp [Addr.add])) ?_
 refine aB 1 rfl<|aD kh2<|aY ?_
 exact bJ [] Tryz.results159 rfl aP ⟨rfl,rfl⟩
end Go.Proofs.YthpkelafioikaaaGreat
