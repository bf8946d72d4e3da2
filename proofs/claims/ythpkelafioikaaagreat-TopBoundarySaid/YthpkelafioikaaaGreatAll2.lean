import Derived.Test.YthpkelafioikaaaGreatFlyRun
import Derived.Test.YthpkelafioikaaaGreatAll1
import Derived.Test.YthpkelafioikaaaGreatAll0
import Derived.Test.YthpkelafioikaaaGreatFlyT
import Derived.Test.YthpkelafioikaaaGreatFlyMap
import Derived.Laws.IdiomRangeMap
import Derived.KernelRfl
namespace Go.Proofs.YthpkelafioikaaaGreat
open Go Go.RowKit Fly
set_option maxRecDepth 100000
set_option maxHeartbeats 4000000
set_option linter.all false
def gJ (L:List Int) (y:Int):Nat:=(L.filter fun x=>decide (x=y)).length
theorem cnt_is (L:List Int) (j:Nat):cnt L j=gJ L (j:Int):=rfl
theorem kT {L:List Int} {y:Int} (h:y∉L):gJ L y=0:=by
 unfold gJ
 rw [List.length_eq_zero_iff,List.filter_eq_nil_iff];intro x hx e;simp at e;subst e;exact h hx
theorem cntI_pos {L:List Int} {y:Int} (h:y∈L):0<gJ L y:=by
 unfold gJ
 exact List.length_pos_of_mem (List.mem_filter.2 ⟨h,aO⟩)
theorem cntI_set {L:List Int}:∀ {i:Nat} (h:i<L.length) (x y:Int),gJ (L.set i x) y+(if L[i]=y then 1 else 0)=gJ L y+(if x=y then 1 else 0):=by
 intro i h x y;have:=filt_set (fun z=>decide (z=y)) L i x h
 unfold gJ
 simpa using this
theorem d6 {n:Nat} {L:List Int} (h:eG (n:Int) L=true):rgo 0 L=true∧L.length=n:=by
 unfold eG at h
 simp only [Bool.and_eq_true,decide_eq_true_eq] at h;exact ⟨h.1,aA⟩
theorem rgo_tidy:∀ (L:List Int) (P:List Nat) (q:Nat),rgo (q:Int) L=true→(nxt P P.length=q)→∃ Q:List Nat,L=Q.map (fun x:Nat=>(x:Int))∧∀ k (h:k<Q.length),Q[k]≤nxt (P++Q) (P.length+k)
 |[],P,q,_,_=>⟨[],rfl,fun k h=>by simp at h⟩
 |x::L,P,q,h,hq=>by
  unfold rgo at h
  by_cases hx:x<0∨(q:Int)<x
  ·rw [if_pos hx] at h;cases h
  ·rw [if_neg hx] at h
   obtain ⟨y,rfl⟩:∃ y:Nat,x=(y:Int):=⟨x.toNat,aA⟩
   have hn:nxt (P++[y]) (P++[y]).length=if (y:Int)=(q:Int) then q+1 else q:=by
    rw [List.length_append,List.length_singleton]
    have F:nxt (P++[y]) P.length=q:=by
     rw [← hq];exact nP _ _ _ fun j hj=>List.getElem?_append_left hj
    show (if (P++[y])[P.length]? =some (nxt (P++[y]) P.length) then nxt (P++[y]) P.length+1 else nxt (P++[y]) P.length)=_
    rw [F,List.getElem?_append_right (Nat.le_refl _),Nat.sub_self]
    by_cases hy:y=q
    ·subst hy;simp
    ·rw [if_neg (by simpa using hy),if_neg aA]
   have h' :rgo ((if (y:Int)=(q:Int) then q+1 else q:Nat):Int) L=true:=by
    by_cases hy:(y:Int)=(q:Int)
    ·rw [if_pos hy] at h ⊢;exact h
    ·rw [if_neg hy] at h ⊢;exact h
   obtain ⟨Q,rfl,J⟩:=rgo_tidy L (P++[y]) _ h' hn
   refine ⟨y::Q,rfl,fun k hk=>?_⟩
   cases k with
   |zero=>
    have F:nxt (P++y::Q) P.length=q:=by
     rw [← hq];exact nP _ _ _ fun j hj=>List.getElem?_append_left hj
    simp only [List.getElem_cons_zero,Nat.add_zero];rw [F];omega
   |succ k=>
    have:=J k (by simpa using hk)
    simp only [List.getElem_cons_succ];rw [List.length_append,List.length_singleton,List.append_assoc] at this;rw [show P.length+(k+1)=P.length+1+k by omega];exact this
theorem right_tidy {n:Nat} {L:List Int} (h:eG (n:Int) L=true):∃ Q:List Nat,L=Q.map (fun x:Nat=>(x:Int))∧Tidy Q∧Q.length=n:=by
 obtain ⟨h1,h2⟩:=d6 h
 obtain ⟨Q,rfl,F⟩:=rgo_tidy L [] 0 h1 rfl
 exact ⟨Q,rfl,fun k hk=>by have:=F k hk;simpa using this,by simpa using h2⟩
theorem lS {L:List Int} {u:Nat} (h:u<L.length):lab L (u:Int)=L[u]:=by rw [oR (by simpa using h)];simp
theorem right_unique {n:Nat} {L M:List Int} (h:eG (n:Int) L=true) (h' :eG (n:Int) M=true) (he:∀ u v:Nat,u<n→v<n→(lab L (u:Int)=lab L (v:Int)↔lab M (u:Int)=lab M (v:Int))):L=M:=by
 obtain ⟨Q,rfl,F,hq⟩:=right_tidy h
 obtain ⟨R,rfl,J,hr⟩:=right_tidy h'
 rw [tidy_unique F J aA fun i j hi hj=>?_];have:=he i j aA aA
 rw [lS (by simpa using hi),lS (by simpa using hj),lS (by simp;omega),lS (by simp;omega)] at this;simp only [List.getElem_map] at this;exact ⟨fun h=>by have:=this.1 (by rw [h]);omega,fun h=>by have:=this.2 (by rw [h]);omega⟩
def mrg (a b:Int) (L:List Int):List Int:=L.map fun x=>if x=b then a else x
theorem lR (a b:Int) (L:List Int):(mrg a b L).length=L.length:=by simp [mrg]
theorem mrg_get {a b : Int} {L : List Int} {u : Nat} (h : u < L.length) : (mrg a b L)[u]'(by rw [lR]; exact h) = if L[u] = b then a else L[u] := by simp [mrg]
theorem mrg_lab {a b:Int} {L:List Int} {u:Nat} (h:u<L.length):lab (mrg a b L) (u:Int)=if lab L (u:Int)=b then a else lab L (u:Int):=by
 rw [lS (by rw [lR];exact h),lS h,mrg_get h]
theorem cntI_mrg {a b:Int} (F:a≠b) (y:Int):∀ L:List Int,gJ (mrg a b L) y=if y=a then gJ L a+gJ L b else if y=b then 0 else gJ L y
 |[]=>by simp [mrg,gJ]
 |x::L=>by
  have ih:=cntI_mrg F y L
  unfold gJ mrg at ih ⊢
  simp only [List.map_cons,List.filter_cons]
  by_cases h1:y=a
  ·subst h1
   rw [if_pos rfl] at ih ⊢
   by_cases h2:x=b
   ·subst h2
    have:¬ x=y:=fun h=>F h.symm
    simp [this] at ih ⊢;omega
   ·by_cases h3:x=y
    ·subst h3
     simp [h2] at ih ⊢;omega
    ·simp [h2,h3] at ih ⊢;omega
  ·rw [if_neg h1] at ih ⊢
   by_cases J:y=b
   ·subst J
    rw [if_pos rfl] at ih ⊢
    by_cases h2:x=y
    ·subst h2
     simp at ih ⊢;rw [if_neg F];simpa using ih
    ·simp [h2] at ih ⊢;exact ih
   ·rw [if_neg J] at ih ⊢
    by_cases h2:x=b
    ·subst h2
     have e1:¬ a=y:=fun h=>h1 h.symm
     have e2:¬ x=y:=fun h=>J h.symm
     simp [e1,e2] at ih ⊢;exact ih
    ·by_cases h3:x=y
     ·subst h3
      simp [h2] at ih ⊢;exact ih
     ·simp [h2,h3] at ih ⊢;exact ih
theorem cntI_tdy {L:List Int} {bd:Int} (F:0≤bd) (h:∀ y,(gJ L y:Int)≤bd) (y:Int):(gJ (tdy L) y:Int)≤bd:=by
 by_cases hy:0≤y∧y<((sns L).length:Int)
 ·obtain ⟨j,rfl⟩:∃ j:Nat,y=(j:Int):=⟨y.toNat,aA⟩
  rw [← cnt_is,cnt_tdy aA];exact h _
 ·rw [kT (fun hm=>hy (tdy_rng y hm))];exact F
theorem sns_card {L:List Int} {M:Nat} {b:Int} (hr:∀ x∈L,0≤x∧x<(M:Int)) (hb:0≤b∧b<(M:Int)) (hn:b∉L):(sns L).length+1≤M:=by
 have J:(sns L).Nodup:=by have:=sns_nodup (L:=L) (k:=L.length) (Nat.le_refl _);rwa [List.take_length] at this
 have F:∀ x∈sns L,x∈L:=fun x hx=>by
  have:=sns_sub (L:=L) (k:=L.length) (Nat.le_refl _) x (by rw [List.take_length];exact hx)
  exact this
 have:=pV (n:=M) (l:=b::sns L) (fun x hx=>by
  rcases List.mem_cons.1 hx with rfl|hx
  ·exact hb
  ·exact hr x (F x hx)) (List.nodup_cons.2 ⟨fun h=>hn (F b h),J⟩)
 simpa using this
theorem tdy_labN {L:List Int} {u w:Nat} (F:u<L.length) (hw:w<L.length):(lab (tdy L) (u:Int)=lab (tdy L) (w:Int))↔lab L (u:Int)=lab L (w:Int):=tdy_lab (by simpa using F) (by simpa using hw)
structure JInv (n:Nat) (l:List Arc) (bd:Int) (L0 L:List Int):Prop where
 right:eG (n:Int) L=true
 size:∀ y,(gJ L y:Int)≤bd
 coarse:∀ u v:Nat,u<n→v<n→lab L0 (u:Int)=lab L0 (v:Int)→lab L (u:Int)=lab L (v:Int)
 cut:qW n l L≤qW n l L0
 gen:∀ f:Nat→Nat,(∀ u v:Nat,u<n→v<n→lab L0 (u:Int)=lab L0 (v:Int)→f u=f v)→(∀ p∈prs n l,f p.1.toNat=f p.2.toNat)→∀ u v:Nat,u<n→v<n→lab L (u:Int)=lab L (v:Int)→f u=f v
def Seam (n:Nat) (l:List Arc) (bd:Int) (L:List Int) (a b:Int):Prop:=∃ p∈prs n l,a≠b∧((lab L p.1=a∧lab L p.2=b)∨(lab L p.1=b∧lab L p.2=a))∧(gJ L a:Int)+gJ L b≤bd
theorem JInv.refl {n:Nat} {l:List Arc} {bd:Int} {L:List Int} (h:eG (n:Int) L=true) (hs:∀ y,(gJ L y:Int)≤bd):JInv n l bd L L:=
 ⟨h,hs,fun _ _ _ _ e=>e,Nat.le_refl _,fun f h1 _ u v F hv e=>h1 u v F hv e⟩
theorem JInv.step {n:Nat} {l:List Arc} {bd:Int} {L0 L:List Int} (h0:0≤bd) (h:JInv n l bd L0 L) {a b:Int} (hs:Seam n l bd L a b):JInv n l bd L0 (tdy (mrg a b L)):=by
 obtain ⟨p,hp,ab,Y,ac⟩:=hs
 have hl:=(d6 h.right).2
 have ad:=lR a b L
 have hX:∀ y,(gJ (mrg a b L) y:Int)≤bd:=fun y=>by
  rw [cntI_mrg ab]
  split
  ·omega
  ·split
   ·exact h0
   ·exact h.size y
 have F:∀ u v:Nat,u<n→v<n→(lab (tdy (mrg a b L)) (u:Int)=lab (tdy (mrg a b L)) (v:Int)↔(if lab L (u:Int)=b then a else lab L (u:Int))=(if lab L (v:Int)=b then a else lab L (v:Int))):=fun u v J hv=>by
  rw [tdy_labN aA aA,mrg_lab aA,mrg_lab aA]
 refine ⟨right_tdy aA,cntI_tdy h0 hX,fun u v J hv e=>?_,?_,fun f h1 h2 u v J hv e=>?_⟩
 ·rw [F u v J hv,h.coarse u v J hv e]
 ·rw [cut_tdy aA]
  refine Nat.le_trans ?_ h.cut
  unfold qW
  have Z:∀ q∈prs n l,kF (mrg a b L) q=true→kF L q=true:=fun q hq O=>by
   have hr:=jD hq
   rw [nE] at O ⊢;simp only [decide_eq_true_eq] at O ⊢;intro e;apply O;rw [show q.1=((q.1.toNat:Nat):Int) by omega,show q.2=((q.2.toNat:Nat):Int) by omega,mrg_lab aA,mrg_lab aA];rw [show ((q.1.toNat:Nat):Int)=q.1 by omega,show ((q.2.toNat:Nat):Int)=q.2 by omega,e]
  have key:∀ xs:List Pr,(∀ q∈xs,kF (mrg a b L) q=true→kF L q=true)→(xs.filter (kF (mrg a b L))).length≤(xs.filter (kF L)).length:=by
   intro xs
   induction xs with
   |nil=>intro _;simp
   |cons x xs ih=>
    intro hx;have:=ih fun q hq=>hx q (List.mem_cons_of_mem _ hq)
    have h1:=hx x (List.mem_cons_self ..)
    rw [List.filter_cons,List.filter_cons]
    split
    ·rw [if_pos (h1 (by assumption))];simp;omega
    ·split
     ·simp;omega
     ·exact this
  exact key _ Z
 ·rw [F u v J hv] at e
  have hr:=jD hp
  have hg:=h.gen f h1 h2
  have X:∀ x y:Nat,x<n→y<n→lab L (x:Int)=a→lab L (y:Int)=b→f x=f y:=fun x y hx hy e1 e2=>by
   have h3:=h2 p hp
   have aa:lab L ((p.1.toNat:Nat):Int)=lab L p.1:=by rw [Int.toNat_of_nonneg hr.1.1]
   have U:lab L ((p.2.toNat:Nat):Int)=lab L p.2:=by rw [Int.toNat_of_nonneg hr.2.1]
   rcases Y with ⟨q1,q2⟩|⟨q1,q2⟩
   ·rw [hg x p.1.toNat hx aA (by rw [aa,q1];exact e1),h3]
    exact hg _ _ aA hy (by rw [U,q2];exact e2.symm)
   ·rw [hg x p.2.toNat hx aA (by rw [U,q2];exact e1),← h3]
    exact hg _ _ aA hy (by rw [aa,q1];exact e2.symm)
  by_cases e1:lab L (u:Int)=b<;>by_cases e2:lab L (v:Int)=b
  ·exact hg u v J hv (e1.trans e2.symm)
  ·rw [if_pos e1,if_neg e2] at e
   exact (X v u hv J e.symm e1).symm
  ·rw [if_neg e1,if_pos e2] at e
   exact X u v J hv e e2
  ·rw [if_neg e1,if_neg e2] at e
   exact hg u v J hv e
theorem e7 {n:Nat} {L:List Int} (h:eG (n:Int) L=true) (hn:1≤n):∀ x∈L,0≤x∧x<((fC L+1).toNat:Int)∧(fC L+1).toNat≤n:=fun x hx=>by
 obtain ⟨h1,h2⟩:=d6 h
 have hp:=rgo_pos h1 x hx
 have hm:=iL hx
 have F:0<L.length:=aA
 have:=mU F fun y hy=>by have:=rgo_lt h1 y hy;exact (show y≤(n:Int) - 1 by omega)
 omega
theorem join_less {n:Nat} {L:List Int} {a b:Int} (h:eG (n:Int) L=true) (hn:1≤n) (ha:a∈L) (hb:b∈L) (J:a≠b):(fC (tdy (mrg a b L))+1).toNat<(fC L+1).toNat:=by
 obtain ⟨h1,h2⟩:=d6 h
 have hr:=e7 h hn
 have O:∀ x∈mrg a b L,0≤x∧x<((fC L+1).toNat:Int):=fun x hx=>by
  obtain ⟨y,hy,rfl⟩:=List.mem_map.1 hx
  split
  ·exact ⟨(hr a ha).1,(hr a ha).2.1⟩
  ·exact ⟨(hr y hy).1,(hr y hy).2.1⟩
 have F:b∉mrg a b L:=fun hm=>by
  obtain ⟨y,hy,e⟩:=List.mem_map.1 hm
  split at e
  ·exact J e
  ·rename_i h3;exact h3 e
 have hc:=sns_card O ⟨(hr b hb).1,(hr b hb).2.1⟩ F
 rw [max_tdy (by rw [lR];omega)];omega
theorem anyG_no {α:Type} {p:α→Bool} {l:List α} {k:Nat} (hk:l.length≤k) (h:∀ j (a:j<l.length),j<k→p l[j]=false):l.any p=false:=List.any_eq_false.2 fun x hx=>by
 obtain ⟨i,hi,rfl⟩:=List.mem_iff_getElem.1 hx
 simp [h i hi aA]
theorem anyG_yes {α:Type} {p:α→Bool} {l:List α} {k:Nat} (hk:k<l.length) (h:p l[k]=true):l.any p=true:=List.any_eq_true.2 ⟨_,List.getElem_mem hk,h⟩
theorem ints_oneG (l:List Int):(a8 l).all (·.oneCell')=true:=by
 induction l with
 |nil=>rfl
 |cons x l ih=>rw [show a8 (x::l)= .int .i64 x::a8 l from rfl,List.all_cons,ih];rfl
theorem IdxG_spec (A:Option Addr) (l:List Int) (cap:Nat) (p:Int→Bool) (O:FuncId) (F:List Value) (w:World) (hr:Ro (Fr w []) w A (a8 l)) (hm:l.length≤9223372036854775807) (ab:∀ args w,(callFunc O args).run Tryz.prog w= .ok (.enter O args) w)
    (Y:∀ w',(∀ k,Fr w [] k→w'.heap[k]? =w.heap[k]?)→∀ i,i∈l→Meets Tryz.prog O ([.int .i64 i]++F) w' [] (fun u m=>u= .bool (p i)∧m=[])):
    Meets Tryz.prog 127 [.slice A l.length cap,.func (.func O) #[] F.toArray] w [] (fun u m=>∃ r,u= .int .i64 r∧m=[]∧decide (0≤r)=l.any p):=by
 refine bG Tryz.func127 rfl Tryz.ntmps127 rfl Owns.nil<|aG fun kh1=>aB 1 rfl<|aD kh1<|aV fun kh2=>aG fun U=>aB 1 rfl<|dY bU rfl<|aB 1 rfl<|aD U ?_
 refine aS ?_;refine m4 (α:=Nat) [0,1,7] (fun k=>[(8,.int .i64 (k:Int))]) (fun k=>k≤l.length∧∀ j (a:j<l.length),j<k→p l[j]=false) (fun k=>l.length - k) (0) ?_ ?_ ?_
 ·exact aF
 ·exact ⟨Nat.zero_le _,fun j _ h=>aA⟩
 ·rintro k ⟨ad,J⟩;refine aG fun kh4=>aB 1 rfl<|aD kh4<|aV fun kh5=>aX rfl (fun c9=>?_) (fun c9=>?_)
  ·refine bZ kh5<|aV fun kh6=>aS<|aG fun kh7=>aB 2 rfl<|aD kh7<|aG fun kh8=>aB 3 rfl ?_
   have hk:k<l.length:=aA
   obtain ⟨b1,o1,rfl,ac,Z⟩:=hr (gX hk)
   refine f_Q (aM bU rfl rfl (o1+k))<|f_Q (aH Tryz.isAgg3 rfl (eC (enc:=(.int .i64 ·)) ac Z hk)) ?_;refine f_S (jE [] _ ab rfl rfl Sub.refl (fun w_ X=>(by have h:=Y w_ (fun k hk=>X.same k hk) _ (List.getElem_mem hk);exact h)) ?_);rintro _ _ ⟨rfl,rfl⟩;dsimp only [aK,aJ];refine aD kh8<|e8 rfl (fun c16=>?_) (fun c16=>?_)
   ·refine aG fun aa=>aB 2 rfl<|aD aa<|aZ<|fA<|dA<|dA<|fA<|dA ?_
    exact bO [] Tryz.results127 rfl aP ⟨_,rfl,rfl,by rw [anyG_yes hk c16];simp⟩
   ·refine dZ<|dI<|bP kh6<|aI<|f_Q (bF rfl rfl)<|aB 1 rfl<|aY ?_
    refine cV (a6 (k+1) (by first|omega|(dsimp only;omega)|(simp;omega)) ⟨aA,false_next (hk:=hk) J (by simpa using c16)⟩ ?_ ?_ ?_)
    ·exact aF
    ·exact aF
    ·exact aC
  ·refine cS<|cU<|cU<|eH<|bP kh2<|aG fun kh10=>aB 1 rfl<|aD kh10<|aZ ?_
   exact bO [] Tryz.results127 rfl aP ⟨_,rfl,rfl,by rw [anyG_no aA J];rfl⟩
theorem ContG_spec (A:Option Addr) (l:List Int) (cap:Nat) (p:Int→Bool) (O:FuncId) (F:List Value) (w:World) (hr:Ro (Fr w []) w A (a8 l)) (hm:l.length≤9223372036854775807) (U:∀ args w,(callFunc O args).run Tryz.prog w= .ok (.enter O args) w)
    (X:∀ w',(∀ k,Fr w [] k→w'.heap[k]? =w.heap[k]?)→∀ i,i∈l→Meets Tryz.prog O ([.int .i64 i]++F) w' [] (fun u m=>u= .bool (p i)∧m=[])):
    Meets Tryz.prog 75 [.slice A l.length cap,.func (.func O) #[] F.toArray] w [] (fun u m=>u= .bool (l.any p)∧m=[]):=by
 refine bG Tryz.func75 rfl Tryz.ntmps75 rfl Owns.nil<|aG fun kh1=>aB 1 rfl<|aD kh1<|aG fun kh2=>aB 2 rfl ?_
 refine f_S (aW Tryz.call127 rfl (fun Z J=>IdxG_spec A l cap p O F Z (hr.up0 J) hm U (fun w' hs i hi=>X w' (fun k hk=>by rw [hs k ⟨Nat.lt_of_lt_of_le (J.lt k hk) J.size,aO⟩];exact J.same k hk) i hi)) ?_);rintro _ _ ⟨r,rfl,rfl,Y⟩;dsimp only [aK,aJ];refine aB 2 rfl<|aD kh2<|aZ ?_
 exact bO [] Tryz.results75 rfl aP ⟨by rw [← Y],rfl⟩
theorem oP (A:Option Addr) (len:Nat) (cs:List Value) (cap:Nat) (w:World) (hs:Ro (Fr w []) w A cs) (hn:A=none→len=0) (hl:cs.length=len*1) (hone:cs.all (·.oneCell')=true) (U:len≤1000000000):
    Meets Tryz.prog 56 [.slice A len cap] w [] (fun u own' =>∃ m,own' =[m]∧Own 3 1 u len cs m):=by
 refine bG Tryz.func56 rfl Tryz.ntmps56 rfl Owns.nil<|aG fun kh1=>aB 1 rfl<|aD kh1<|aV fun kh2=>aG fun kh3=>aB 1 rfl<|f_Q (o_eqlSl Tryz.underlying25 rfl rfl)<|aD kh3<|e8 rfl (fun c4=>?_) (fun c4=>?_)
 ·obtain rfl:A=none:=by cases A<;>first|rfl|simp at c4
  obtain rfl:len=0:=hn rfl
  obtain rfl:cs=[]:=List.eq_nil_of_length_eq_zero (by simpa using hl)
  refine aG fun F=>aB 1 rfl<|aD F<|aZ<|dA ?_
  exact bO [[]] Tryz.results56 rfl Sub.empty ⟨[],rfl,Own.nil _ _⟩
 ·refine bZ kh2<|aG fun kh5=>f_S (o_slice0 eO fun X=>?_)
  refine aB 1 rfl<|f_S (pJ eO rfl rfl (Own.mk (b:=X) (cs:=[]) (len:=0) rfl aA) (ys:=cs) (fun J=>by obtain ⟨b,off,e,Z,hc⟩:=hs J;exact ⟨b,off,e,Seen.rds fun _=>⟨Z,hc⟩⟩) hl hone aA aA fun v7 O Y=>?_)
  refine aB 1 rfl<|aD kh5<|aZ ?_
  exact bO [O] Tryz.results56 rfl (by repeat (first|exact aP|refine aL ?_)) ⟨O,rfl,by simpa using Y⟩
end Go.Proofs.YthpkelafioikaaaGreat
namespace Go.Proofs.YthpkelafioikaaaGreat.Fly
open Go Go.RowKit
set_option linter.unusedVariables false
set_option linter.unusedSimpArgs false
set_option linter.unusedSectionVars false
theorem nodup_inj {F J:Type} {f:F→J}:∀ {l:List F} {a b:F},(l.map f).Nodup→a∈l→b∈l→f a=f b→a=b
 |[],_,_,_,ha,_,_=>by cases ha
 |x::l,a,b,h,ha,hb,e=>by
  simp only [List.map_cons,List.nodup_cons,List.mem_map,not_exists,not_and] at h;simp only [List.mem_cons] at ha hb
  rcases ha with rfl|ha<;>rcases hb with rfl|hb
  ·rfl
  ·exact absurd e.symm (h.1 b hb)
  ·exact absurd e (h.1 a ha)
  ·exact nodup_inj h.2 ha hb e
section
variable {α:Type} [DecidableEq α]
structure Came (l:List (α×Value×Nat)) (seen:List Nat) (out:List α):Prop where
 nodup:out.Nodup
 mem:∀ e∈l,e.1∈out↔e.2.2∈seen
 sub:∀ k∈out,k∈l.map (·.1)
theorem Came.start {l:List (α×Value×Nat)}:Came l [] []:=⟨aO,aO,aO⟩
theorem Came.len {l:List (α×Value×Nat)} {seen:List Nat} {out:List α} (h:Came l seen out):out.length≤l.length:=by
 have:=List.Nodup.length_le_of_subset h.nodup h.sub
 simpa using this
theorem Came.next {l:List (α×Value×Nat)} {c:Nat} {seen:List Nat} {out:List α} (h:Came l seen out) (hok:MOk l c) {e:α×Value×Nat} (he:e∈l) (F:e.2.2∉seen):Came l (seen++[e.2.2]) (out++[e.1]) where
 nodup:=by
  rw [List.nodup_append];refine ⟨h.nodup,aO,fun a ha b hb e' =>?_⟩;simp only [List.mem_singleton] at hb;subst hb;subst e';exact F ((h.mem e he).1 ha)
 mem:=fun x hx=>by
  simp only [List.mem_append,List.mem_singleton];rw [h.mem x hx];constructor
  ·rintro (h1|h1)
   ·exact .inl h1
   ·exact .inr (by rw [nodup_inj hok.keys hx he h1])
  ·rintro (h1|h1)
   ·exact .inl h1
   ·exact .inr (by rw [nodup_inj (f:=fun x=>x.2.2) hok.born hx he h1])
 sub:=fun k hk=>by
  simp only [List.mem_append,List.mem_singleton] at hk
  rcases hk with hk|rfl
  ·exact h.sub k hk
  ·exact List.mem_map.2 ⟨e,he,rfl⟩
theorem Came.all {l:List (α×Value×Nat)} {seen:List Nat} {out:List α} (h:Came l seen out) (ha:∀ e∈l,e.2.2∈seen) (k:α):k∈out↔k∈l.map (·.1):=
 ⟨h.sub k,fun hk=>by obtain ⟨e,he,rfl⟩:=List.mem_map.1 hk;exact (h.mem e he).2 (ha e he)⟩
abbrev nT (bm c:Nat) (seen:List Nat):Obj:= .mapIter (some bm) c seen.toArray c
variable {P:Program} {n:Nat} {S:Nat→Prop} {w0:World} {env:Env} {segs:List Seg} {K:Value→List Seg→Prop} {d:Option Tmp} {ty:TypeId} {pos:String} {af:Array Edge} {g:Option (Nat×Bool)} {M k E:TypeId} {enc:α→Value}
theorem o_range {x:Operand} {bm:Nat} {l:List (α×Value×Nat)} {c:Nat} {f:Seg→List Seg} (F:KeyT P M k E enc) (hx:ev env x=some (.map (some bm))) [hA:At segs bm (e9 enc l c) f]
  (J:∀ b,K (.pointer (some ⟨b,0,none⟩)) ([(b,nT bm c [])]::segs)):Does P n S w0 env segs ⟨d,.range M x,ty,pos,af,g⟩ K:=
 gP fun a w ha hp=>by
  have hb:=hp.own bm _ hA.mem
  refine ⟨_,_,w.alloc (nT bm c []),.inl ?_,by simpa using hp.alloc (nT bm c []),J w.heap.size⟩;simp only [execOp,ha.eval hx,Sem.run_bind,run_range_map w M k E bm _ c F.und hb,Result.andThen_ok,Sem.run_pure]
theorem left_list (l:List (α×Value×Nat)) (seen:List Nat):(leftOf (l.map fun x=>(⟨enc x.1,x.2.1,x.2.2⟩:MapEntry)).toArray seen.toArray).toList=(l.filter fun x=> !seen.contains x.2.2).map fun x=>(⟨enc x.1,x.2.1,x.2.2⟩:MapEntry):=by
 unfold leftOf
 simp [List.filter_map,Function.comp_def]
theorem run_next_at {w:World} {r bm c:Nat} {seen:List Nat} {l:List (α×Value×Nat)} (ty:TypeId) (hr:w.heap[r]? =some (nT bm c seen)) (hb:w.heap[bm]? =some (e9 enc l c)) (hok:MOk l c):
  ((∀ e∈l,e.2.2∈seen)∧(Instr.next (.pointer (some ⟨r,0,none⟩)) false ty).run P w= .ok (.tuple #[.bool false]) w)∨
  ∃ e∈l,e.2.2∉seen∧∃ F:World,F.heap=w.heap∧F.os=w.os∧F.tape=w.tape∧F.output=w.output∧w.drawn≤F.drawn∧(Instr.next (.pointer (some ⟨r,0,none⟩)) false ty).run P w= .ok (.tuple #[.bool true,enc e.1,e.2.1]) { F with heap:=F.heap.setIfInBounds r (nT bm c (seen++[e.2.2])) }:=by
 have O:∀ x∈((l.map fun x=>(⟨enc x.1,x.2.1,x.2.2⟩:MapEntry)).toArray).toList,x.born<c:=fun x hx=>by
  simp at hx;obtain ⟨a,b,s,h,rfl⟩:=hx
  exact hok.old _ h
 simp only [Instr.next,getObj,Sem.run_bind,Sem.run,hr,hb,Result.andThen,next_test_false seen.toArray _ c c O (Nat.le_refl _),Bool.false_eq_true,if_false];have hL:=left_list (enc:=enc) l seen
 unfold leftOf at hL
 have J:∀ x∈(Array.filter (fun e=> !seen.toArray.contains e.born) (l.map fun x=>(⟨enc x.1,x.2.1,x.2.2⟩:MapEntry)).toArray).toList,x.born<c:=fun x hx=>O x (by simp at hx ⊢;exact hx.1)
 generalize Array.filter (fun e=> !seen.toArray.contains e.born) (l.map fun x=>(⟨enc x.1,x.2.1,x.2.2⟩:MapEntry)).toArray=L at hL J ⊢
 have e1:L.filter (fun x=>decide (x.born<c))=L:=Array.filter_eq_self.2 (fun x hx=>by simpa using J x (by simpa using hx))
 have e2:L.filter (fun x=>decide (x.born≥c))= #[]:=by
  rw [Array.filter_eq_empty_iff];intro x hx;have:=J x (by simpa using hx)
  simp;omega
 simp only [e1,e2,Array.append_empty]
 by_cases h0:L.size=0
 ·left
  have:L= #[]:=Array.eq_empty_of_size_eq_zero h0
  subst this;refine ⟨fun e he=>?_,by simp [choose,Sem.run,Question.forced]⟩;have U:=hL.symm
  simp only [List.map_eq_nil_iff] at U;rw [List.filter_eq_nil_iff] at U;have:=U e he
  simpa using this
 ·right
  have ae:L.isEmpty=false:=by simp [Array.isEmpty,h0]
  simp only [ae,Bool.false_eq_true,if_false,Array.empty_append,Array.size_map]
  have ac:∃ (j:Nat) (F:World),j<L.size∧F.heap=w.heap∧F.os=w.os∧F.tape=w.tape∧F.output=w.output∧w.drawn≤F.drawn∧(choose (Question.mapNext L.size)).run P w= .ok j F:=by
   by_cases hf:L.size≤1
   ·exact ⟨0,w,aA,rfl,rfl,rfl,rfl,Nat.le_refl _,by simp [choose,Sem.run,Question.forced,hf]⟩
   ·exact ⟨_,w.drew,Nat.mod_lt _ aA,rfl,rfl,rfl,rfl,Nat.le_succ _,by
     simp only [choose,Sem.run,Question.forced,decide_eq_true_eq,hf,if_false,Question.cut]
     rfl⟩
  obtain ⟨j,F,hj,q1,q2,q3,q4,q5,X⟩:=ac
  have Z:L[j]∈L.toList:=aO
  rw [hL] at Z;obtain ⟨e,he,Y⟩:=List.mem_map.1 Z
  obtain ⟨ad,ag⟩:=List.mem_filter.1 he
  refine ⟨e,ad,by simpa using ag,F,q1,q2,q3,q4,q5,?_⟩
  have aa:(setObj r (nT bm c (seen++[e.2.2]))).run P F= .ok () { F with heap:=F.heap.setIfInBounds r (nT bm c (seen++[e.2.2])) }:=by
   simp only [setObj,Sem.run];rw [q1,hr]
  have ab:seen.toArray.push L[j].born=(seen++[e.2.2]).toArray:=by rw [← Y];simp
  simp only [X,Array.getElem?_map,Array.getElem?_eq_getElem hj,Option.map_some,Sem.run_bind,ab,aa,Result.andThen];rw [← Y]
  rfl
theorem o_next {x:Operand} {r bm c:Nat} {seen:List Nat} {l:List (α×Value×Nat)} {f f' :Seg→List Seg} (hok:MOk l c) (hx:ev env x=some (.pointer (some ⟨r,0,none⟩))) [hA:At segs r (nT bm c seen) f] [hB:At segs bm (e9 enc l c) f']
  (J:(∀ e∈l,e.2.2∈seen)→K (.tuple #[.bool false]) segs) (F:∀ e∈l,e.2.2∉seen→K (.tuple #[.bool true,enc e.1,e.2.1]) (f [(r,nT bm c (seen++[e.2.2]))])):
  Does P n S w0 env segs ⟨d,.next x false,ty,pos,af,g⟩ K:=
 gP fun a w ha hp=>by
  have hr:=hp.own r _ hA.mem
  have hb:=hp.own bm _ hB.mem
  obtain ⟨L,R,e1,e2⟩:=hA.flat
  rcases run_next_at (P:=P) (enc:=enc) ty hr hb hok with ⟨h1,h2⟩|⟨e,he,O,X,U,Y,q3,Z,q5,h2⟩
  ·exact ⟨_,_,w,.inl (by simp [execOp,ha.eval hx,h2]),hp,J h1⟩
  ·refine ⟨_,_,{ X with heap:=X.heap.setIfInBounds r (nT bm c (seen++[e.2.2])) },.inl (by simp [execOp,ha.eval hx,h2]),?_,F e he O⟩
   rw [e2];rw [e1] at hp
   have hlt:r<w.heap.size:=by
    rcases Nat.lt_or_ge r w.heap.size with h' |h'
    ·exact h'
    ·rw [Array.getElem?_eq_none h'] at hr;cases hr
   refine hp.put (by exact Y) (by exact q3) (by exact Z) (by simp [U]) (by exact q5) (by simp [U,hlt]) (fun k hk=>?_);have:r≠k:=fun e=>hk e.symm
   simp [U,Array.getElem?_setIfInBounds,this]
def Nx (l:List (α×Value×Nat)) (seen:List Nat) (b:Bool) (F:List Nat):Prop:=(b=true∧∃ e∈l,e.2.2∉seen∧F=seen++[e.2.2])∨(b=false∧F=seen∧∀ e∈l,e.2.2∈seen)
theorem o_next1 {x:Operand} {r bm c:Nat} {seen:List Nat} {l:List (α×Value×Nat)} {f U:Seg→List Seg} (hok:MOk l c) (hx:ev env x=some (.pointer (some ⟨r,0,none⟩))) [hA:At segs r (nT bm c seen) f] [hB:At segs bm (e9 enc l c) U]
  (O:∀ (b:Bool) (rest:List Value) (F:List Nat),Nx l seen b F→K (.tuple (.bool b::rest).toArray) (f [(r,nT bm c F)])):
  Does P n S w0 env segs ⟨d,.next x false,ty,pos,af,g⟩ K:=
 o_next hok hx (fun h=>by
  have e:f [(r,nT bm c seen)]=segs:=by
   obtain ⟨L,R,e1,e2⟩:=hA.eq
   rw [e1,e2]
  have:=O false [] seen (.inr ⟨rfl,rfl,h⟩)
  rwa [e] at this) fun e he J=>O true [enc e.1,e.2.1] _ (.inl ⟨rfl,e,he,J,rfl⟩)
theorem o_entry {x:Operand} {r bm c:Nat} {seen:List Nat} {l:List (α×Value×Nat)} {e:α×Value×Nat} {f J:Seg→List Seg} (hok:MOk l c) (he:e∈l) (hx:ev env x=some (.pointer (some ⟨r,0,none⟩))) [hA:At segs r (nT bm c (seen++[e.2.2])) f] [hB:At segs bm (e9 enc l c) J]:
  Pure P n S w0 env segs ⟨d,.entry x,ty,pos,af,g⟩ (.tuple #[enc e.1,e.2.1]):=
 fun a w ha hp=>by
  have hr:=hp.own r _ hA.mem
  have hb:=hp.own bm _ hB.mem
  have hf:((l.map fun x=>(⟨enc x.1,x.2.1,x.2.2⟩:MapEntry)).toArray).find? (·.born==e.2.2)=some ⟨enc e.1,e.2.1,e.2.2⟩:=by
   rw [← Array.find?_toList];exact find_born ⟨enc e.1,e.2.1,e.2.2⟩ _ (by simp only [List.map_map];exact hok.born) (List.mem_map.2 ⟨e,he,rfl⟩)
  have F:(seen++[e.2.2]).toArray.back? =some e.2.2:=aO
  have:(Instr.entry (.pointer (some ⟨r,0,none⟩))).run P w= .ok (.tuple #[enc e.1,e.2.1]) w:=by
   simp only [Instr.entry,getObj,Sem.run_bind,Sem.run,hr,hb,Result.andThen,F,bne_self_eq_false,Bool.false_eq_true,if_false,hf]
   rfl
  simp [execOp,ha.eval hx,this]
end
end Go.Proofs.YthpkelafioikaaaGreat.Fly
namespace Go.Proofs.YthpkelafioikaaaGreat
open Go Go.RowKit Fly
set_option maxRecDepth 100000
set_option maxHeartbeats 4000000
set_option linter.all false
theorem pG {E b c:Nat} {L L2:List Int} {sp:List Value} (h:Own E 1 (.slice (some ⟨b,0,none⟩) L.length c) L.length (a8 L) [(b,blk (a8 L++sp) E)]) (hl:L2.length=L.length):Own E 1 (.slice (some ⟨b,0,none⟩) L2.length c) L2.length (a8 L2) [(b,blk (a8 L2++sp) E)]:=by
 obtain ⟨_,h|⟨b',c',J,e,hm,h1,h2,h3⟩⟩:=h
 ·obtain ⟨e,_⟩:=h;cases e
 ·cases e
  have F:a8 L++sp=a8 L++J:=by simpa using hm
  have F:=List.append_cancel_left F
  subst F;exact ⟨by simp [a8],.inr ⟨b,c,sp,rfl,rfl,aA,h2,by rw [hl];exact h3⟩⟩
def spE (N:Int) (l:List Arc) (L:List Int) (bd:Int):Int:=if (fQ N l L).2≠0 then (fQ N l L).2 else if bd<1∨1024<bd then 1 else 0
abbrev Sm:=Int×Int×Int
def o9 (s:Sm):List Value:=[.int .i64 s.1,.int .i64 s.2.1,.int .i64 s.2.2]
theorem smCs_len (s:Sm):(o9 s).length=3:=rfl
def nW (s t:Sm):Int:=if s.2.2≠t.2.2 then t.2.2 - s.2.2 else if s.1≠t.1 then s.1 - t.1 else s.2.1 - t.2.1
theorem befI_flip {s t:Sm} (h:¬ nW s t<0):nW t s≤0:=by
 unfold nW at h ⊢
 by_cases h1:s.2.2=t.2.2
 ·rw [if_neg aA] at h;rw [if_neg aA]
  by_cases h2:s.1=t.1
  ·rw [if_neg aA] at h;rw [if_neg aA];omega
  ·rw [if_pos aA] at h;rw [if_pos aA];omega
 ·rw [if_pos aA] at h;rw [if_pos aA];omega
theorem befI_refl (s:Sm):nW s s≤0:=by unfold nW;simp
theorem befI_trans {s t u:Sm} (h:nW s t<0) (h' :nW t u≤0):nW s u≤0:=by
 unfold nW at h h' ⊢
 by_cases h1:s.2.2=t.2.2
 ·rw [if_neg aA] at h
  by_cases h2:t.2.2=u.2.2
  ·rw [if_neg aA] at h' ⊢
   by_cases h3:s.1=t.1
   ·rw [if_neg aA] at h
    by_cases F:t.1=u.1
    ·rw [if_neg aA] at h';rw [if_neg aA];omega
    ·rw [if_pos aA] at h';rw [if_pos aA];omega
   ·rw [if_pos aA] at h
    by_cases F:t.1=u.1
    ·rw [if_pos aA];omega
    ·rw [if_pos aA] at h';rw [if_pos aA];omega
  ·rw [if_pos aA] at h' ⊢;omega
 ·rw [if_pos aA] at h
  by_cases h2:t.2.2=u.2.2
  ·rw [if_pos aA];omega
  ·rw [if_pos aA] at h';rw [if_pos aA];omega
theorem take_all {l:List Sm} {s:Sm} {i:Nat} (hi:i<l.length) (h:∀ t∈l.take i,nW s t≤0):(nW l[i] s<0→∀ t∈l.take (i+1),nW l[i] t≤0)∧(¬ nW l[i] s<0→∀ t∈l.take (i+1),nW s t≤0):=by
 rw [List.take_succ_eq_append_getElem hi];constructor
 ·intro h1 t F
  rcases List.mem_append.1 F with F|F
  ·exact befI_trans h1 (h t F)
  ·obtain rfl:=List.mem_singleton.1 F;exact befI_refl _
 ·intro h1 t F
  rcases List.mem_append.1 F with F|F
  ·exact h t F
  ·obtain rfl:=List.mem_singleton.1 F;exact befI_flip h1
def SmOk (s:Sm):Prop:=(0≤s.1∧s.1≤1048576)∧(0≤s.2.1∧s.2.1≤1048576)∧0≤s.2.2∧s.2.2≤1048576
theorem tidy_spec (bl c:Nat) (L:List Int) (F:List Value) (w:World) (hn:L.length≤1024) (h0:0<L.length) (ab:Own 3 1 (.slice (some ⟨bl,0,none⟩) L.length c) L.length (a8 L) [(bl,blk (a8 L++F) 3)]) (ho:Owns w [[(bl,blk (a8 L++F) 3)]]):
    Meets Tryz.prog 93 [.slice (some ⟨bl,0,none⟩) L.length c] w [[(bl,blk (a8 L++F) 3)]] (fun u own' =>u= .tuple #[]∧own' =[[(bl,blk (a8 (tdy L)++F) 3)]]∧Own 3 1 (.slice (some ⟨bl,0,none⟩) (tdy L).length c) (tdy L).length (a8 (tdy L)) [(bl,blk (a8 (tdy L)++F) 3)]):=by
 refine bG Tryz.func93 rfl Tryz.ntmps93 rfl ho<|aG fun kh1=>f_S (iY fun b7=>?_)
 refine aB 1 rfl<|aD kh1<|aG fun kh2=>aB 1 rfl<|dY bU rfl<|aB 1 rfl<|aD kh2<|aS ?_
 refine dF (α:=Nat×List (Int×Value×Nat)×Nat) [0,2,8,9] (fun ⟨k,ents,U⟩=>[(10,.int .i64 (k:Int))]) (fun ⟨k,ents,U⟩=>[[(bl,blk (a8 (l1 L k)++F) 3)],[(b7,e9 (fun x:Int=> .int .i64 x) ents U)]]) (fun ⟨k,ents,U⟩=>k≤L.length∧MOk ents U∧Nums (sns (L.take k)) ents) (fun ⟨k,ents,U⟩=>L.length - k) (0,[],0) ?_ ?_ ?_ ?_
 · exact aF
 · dsimp only
   rw [tdyTo_zero];exact aC
 · exact ⟨aA,MOk.nil,Nums.nil⟩
 ·
  rintro ⟨k,ents,U⟩ ⟨ad,X,J⟩;refine aG fun kh3=>aB 1 rfl<|aD kh3<|aV fun kh4=>aX rfl (fun ac=>?_) (fun ac=>?_)
  ·
   have hk:k<L.length:=aA
   have O:=nG hk
   have ae:=sns_len (L:=L) (k:=k) aA
   refine bZ kh4<|aV fun kh5=>aS<|aG fun kh6=>aB 1 rfl<|f_Q (aM bU rfl rfl (k))<|f_Q (aH Tryz.isAgg3 rfl (rdA (v:= .int .i64 L[k]) (d7 (by rw [d9 (by rw [iT];exact hk),tdyTo_get hk])))) ?_
   refine aB 2 rfl<|aD kh6<|aG fun kh7=>aB 2 rfl<|f_Q (o_lookup2 kt201 Tryz.zeroValue3 rfl rfl rfl (.int .i64 (if L[k]∈sns (L.take k) then (((sns (L.take k)).idxOf L[k]:Nat):Int) else 0)) (by rw [J.2];split<;>rfl) (decide (L[k]∈sns (L.take k))) (by rw [J.2];split<;>simp_all)) ?_
   refine aB 5 rfl<|aD kh7<|aV fun kh8=>aG fun kh9=>aB 2 rfl<|aD kh9<|e8 rfl (fun c22=>?_) (fun c22=>?_)
   ·
    have hx:L[k]∉sns (L.take k):=by simpa using c22
    rw [if_neg hx] at O;have Z:ents.length=(sns (L.take (k+1))).idxOf L[k]:=by rw [O,List.idxOf_append,if_neg hx,J.1];simp
    refine aG fun Y=>aB 1 rfl<|f_Q (o_lenM kt201.und rfl)<|aB 1 rfl<|aD Y<|aI<|aB 3 rfl<|f_Z (fB kt201 rfl rfl rfl rfl ?_)
    refine aD kh8<|aI<|aB 3 rfl<|f_Q (aM bU rfl rfl (k))<|f_Z (bQ Tryz.sizeOf3 rfl rfl rfl rfl (by rw [List.length_append,a7,iT];omega) (a8 (l1 L (k+1))++F) (by rw [p8 hk Z,List.set_append_left _ _ (by rw [a7,iT];omega)];simp [a8,List.map_set]) ?_)
    refine aY<|dI<|bP kh5<|aI<|f_Q (bF rfl rfl)<|aB 1 rfl<|aY ?_
    refine cV (a6 (k+1,fW ents L[k] (.int .i64 (ents.length:Int)) U,fM ents L[k] U) (by first|omega|(dsimp only;omega)|(simp;omega)) ⟨aA,X.put _ _,by rw [O];have:=J.add hx U;rw [← J.1] at this;exact this⟩ ?_ ?_ ?_)
    · exact aF
    · exact aF
    · exact aC
   ·
    have hx:L[k]∈sns (L.take k):=by simpa using c22
    rw [if_pos hx] at O;have aa:(sns (L.take k)).idxOf L[k]=(sns (L.take (k+1))).idxOf L[k]:=by rw [O]
    refine f_reC 5 rfl (v:= .int .i64 (((sns (L.take k)).idxOf L[k]:Nat):Int)) (by rw [if_pos hx]) ?_;refine bZ kh8<|aI<|aB 3 rfl<|f_Q (aM bU rfl rfl (k))<|f_Z (bQ Tryz.sizeOf3 rfl rfl rfl rfl (by rw [List.length_append,a7,iT];omega) (a8 (l1 L (k+1))++F) (by rw [p8 hk aa,List.set_append_left _ _ (by rw [a7,iT];omega)];simp [a8,List.map_set]) ?_)
    refine aY<|dI<|bP kh5<|aI<|f_Q (bF rfl rfl)<|aB 1 rfl<|aY ?_
    refine cV (a6 (k+1,ents,U) (by first|omega|(dsimp only;omega)|(simp;omega)) ⟨aA,X,by rw [O];exact J⟩ ?_ ?_ ?_)
    · exact aF
    · exact aF
    · exact aC
  ·
   refine cS<|cU<|cU<|eH ?_
   obtain rfl:k=L.length:=aA
   exact iR [[(bl,blk (a8 (tdy L)++F) 3)]] Tryz.results93 (by dsimp only;rw [tdyTo_all];exact (by repeat (first|exact aP|refine aL ?_|refine bV rfl ?_))) ⟨rfl,rfl,pG ab (gI L)⟩
theorem splook_spec (N:Int) (A B:Option Addr) (l:List Arc) (cap:Nat) (L:List Int) (cb:Nat) (bd:Int) (w:World) (hr:Ro (Fr w []) w A (l.flatMap cH)) (hl:l.length≤9223372036854775807) (Y:I64 N) (hok:∀ x∈l,eN x) (X:Ro (Fr w []) w B (a8 L)) (hm:L.length≤9223372036854775807):
    Meets Tryz.prog 86 [.agg #[.int .i64 N,.slice A l.length cap],.slice B L.length cb,.int .i64 bd] w [] (fun u own' =>u= .int .i64 (spE N l L bd)∧own' =[]):=by
 refine bG Tryz.func86 rfl Tryz.ntmps86 rfl Owns.nil<|aG fun kh1=>f_S (cZ rfl rfl fun Z=>?_)
 refine aB 1 rfl<|aD kh1<|aV fun kh2=>aG fun kh3=>f_Q (aQ (vs:=[_,_]) Tryz.isAgg24 Tryz.sizeOf24 rfl rfl ⟨(rdA rfl),(rdA rfl),trivial⟩)<|aB 1 rfl ?_
 refine f_S (aW Tryz.call115 rfl (fun U F=>Count_spec N A B l cap L cb U (hr.up0 F) hl Y hok (X.up0 F) hm) ?_);rintro _ _ ⟨rfl,rfl⟩;dsimp only [aK,aJ];refine aB 5 rfl<|aD kh3<|aG fun kh4=>aB 2 rfl<|aD kh4<|aX rfl (fun c16=>?_) (fun c16=>?_)
 ·refine aG fun J=>aB 2 rfl<|aD J<|aZ<|dA ?_
  exact bO [] Tryz.results86 rfl aP ⟨by unfold spE;rw [if_pos c16],rfl⟩
 ·refine bZ kh2<|aV fun kh6=>aG fun kh7=>aB 3 rfl<|eA 20 rfl (fun g20=>?_) (fun g20=>?_)
  ·refine aB 3 rfl<|aD kh7<|eW rfl<|aG fun kh8=>aB 1 rfl<|aD kh8<|aZ<|dA ?_
   exact bO [] Tryz.results86 rfl aP ⟨by unfold spE;rw [if_neg c16,if_pos aA],rfl⟩
  ·refine aB 3 rfl<|aD kh7<|aX rfl (fun c23=>?_) (fun c23=>?_)
   ·refine aG fun O=>aB 1 rfl<|aD O<|aZ<|dA ?_
    exact bO [] Tryz.results86 rfl aP ⟨by unfold spE;rw [if_neg c16,if_pos aA],rfl⟩
   ·refine bZ kh6<|aG fun kh10=>aB 1 rfl<|aD kh10<|aZ ?_
    exact bO [] Tryz.results86 rfl aP ⟨by unfold spE;rw [if_neg c16,if_neg aA],rfl⟩
theorem Pairs_spec (N:Int) (A:Option Addr) (l:List Arc) (cap:Nat) (w:World) (hr:Ro (Fr w []) w A (l.flatMap cH)) (hl:l.length≤9223372036854775807) (X:I64 N) (hok:∀ x∈l,eN x):
    Meets Tryz.prog 89 [.agg #[.int .i64 N,.slice A l.length cap]] w [] (fun u own' =>if (cL N l).2=0 then ∃ A' m' c,u= .tuple #[.slice A' (prs N.toNat l).length (prs N.toNat l).length,.int .i64 0]∧own' =[m']∧Own 215 2 (.slice A' (prs N.toNat l).length c) (prs N.toNat l).length ((prs N.toNat l).flatMap fF) m' else u= .tuple #[.slice none 0 0,.int .i64 (cL N l).2]∧own' =[]):=by
 refine bG Tryz.func89 rfl Tryz.ntmps89 rfl Owns.nil<|aG fun kh1=>f_S (cZ rfl rfl fun Y=>?_)
 refine aB 2 rfl<|aD kh1<|aV fun kh2=>aG fun kh3=>f_Q (aQ (vs:=[_,_]) Tryz.isAgg24 Tryz.sizeOf24 rfl rfl ⟨(rdA rfl),(rdA rfl),trivial⟩) ?_
 refine f_S (aW Tryz.call20 rfl (fun O F=>gF N A l cap O (hr.up0 F) hl X hok) ?_);rintro _ _ ⟨rfl,rfl⟩;dsimp only [aK,aJ];refine aB 5 rfl<|aD kh3<|aG fun kh4=>aB 2 rfl<|aD kh4<|aX rfl (fun c12=>?_) (fun c12=>?_)
 ·refine aG fun J=>aB 3 rfl<|aD J<|aZ<|dA ?_
  exact dB [] Tryz.results89 rfl rfl aP (by rw [if_neg c12];exact ⟨rfl,rfl⟩)
 ·have hg:(cL N l).2=0:=by simpa using c12
  obtain ⟨n,rfl⟩:∃ n:Nat,N=(n:Int):=⟨N.toNat,by have:=cF hg;omega⟩
  refine bZ kh2<|aG fun kh6=>f_Q (aQ (vs:=[_,_]) Tryz.isAgg24 Tryz.sizeOf24 rfl rfl ⟨(rdA rfl),(rdA rfl),trivial⟩) ?_
  refine f_S (aW Tryz.call142 rfl (fun O F=>pairs_spec n A l cap O (hr.up0 F) hg) ?_);rintro _ _ ⟨A',m',rfl,rfl,c',U⟩;dsimp only [aK,aJ];refine aB 2 rfl<|aD kh6<|aZ ?_
  exact dB [m'] Tryz.results89 rfl rfl (by repeat (first|exact aP|refine aL ?_|refine bV rfl ?_)) (by rw [if_pos hg,Int.toNat_natCast];exact ⟨A',m',c',rfl,rfl,U⟩)
theorem before_spec (s t:Sm) (w:World) (hs:SmOk s) (O:SmOk t):
    Meets Tryz.prog 92 [.agg (o9 s).toArray,.agg (o9 t).toArray] w [] (fun u own' =>u= .int .i64 (nW s t)∧own' =[]):=by
 unfold SmOk at hs O
 refine bG Tryz.func92 rfl Tryz.ntmps92 rfl Owns.nil<|aG fun kh1=>f_S (cZ rfl rfl fun X=>?_)
 refine f_S (cZ rfl rfl fun U=>?_);refine aB 1 rfl<|aD kh1<|aV fun kh2=>aS<|aG fun kh3=>cN fa165_2 rfl<|c7 Tryz.isAgg3 rfl (rdA rfl)<|cN fa165_2 rfl<|c7 Tryz.isAgg3 rfl (rdA rfl)<|aB 2 rfl ?_
 refine aD kh3<|aX rfl (fun c5=>?_) (fun c5=>?_)
 ·refine aG fun F=>cN fa165_2 rfl<|c7 Tryz.isAgg3 rfl (rdA rfl)<|cN fa165_2 rfl<|c7 Tryz.isAgg3 rfl (rdA rfl)<|f_Q (jK rfl rfl)<|aB 1 rfl<|aD F<|aZ<|fA ?_
  refine dA ?_;exact bO [] Tryz.results92 rfl aP ⟨by unfold nW;rw [if_pos aA],rfl⟩
 ·refine aG fun kh5=>cN fa165_0 rfl<|c7 Tryz.isAgg3 rfl (rdA rfl)<|cN fa165_0 rfl<|c7 Tryz.isAgg3 rfl (rdA rfl)<|aB 2 rfl<|aD kh5<|aX rfl (fun c16=>?_) (fun c16=>?_)
  ·refine aG fun J=>cN fa165_0 rfl<|c7 Tryz.isAgg3 rfl (rdA rfl)<|cN fa165_0 rfl<|c7 Tryz.isAgg3 rfl (rdA rfl)<|f_Q (jK rfl rfl)<|aB 1 rfl<|aD J<|aZ<|fA ?_
   refine dA ?_;exact bO [] Tryz.results92 rfl aP ⟨by unfold nW;rw [if_neg aA,if_pos aA],rfl⟩
  ·refine dZ<|dI<|bP kh2<|aG fun kh7=>cN fa165_1 rfl<|c7 Tryz.isAgg3 rfl (rdA rfl)<|cN fa165_1 rfl<|c7 Tryz.isAgg3 rfl (rdA rfl)<|f_Q (jK rfl rfl)<|aB 1 rfl ?_
   refine aD kh7<|aZ ?_
   exact bO [] Tryz.results92 rfl aP ⟨by unfold nW;rw [if_neg aA,if_neg aA],rfl⟩
theorem MinF_spec (A:Option Addr) (cap:Nat) (l:List Sm) (w:World) (hr:Ro (Fr w []) w A (l.flatMap o9)) (O:0<l.length) (hl:l.length≤9223372036854775807) (hok:∀ s∈l,SmOk s):
    Meets Tryz.prog 91 [.slice A l.length cap,.func (.func 92) #[] #[]] w [] (fun u own' =>∃ s,u= .agg (o9 s).toArray∧s∈l∧(∀ t∈l,nW s t≤0)∧own' =[]):=by
 obtain ⟨bq,off,rfl,X,hc⟩:=hr (fH o9 smCs_len aA O)
 refine bG Tryz.func91 rfl Tryz.ntmps91 rfl Owns.nil<|aG fun kh1=>f_S (cX Tryz.zeroValue165 rfl fun b4=>?_)
 refine aD kh1<|aV fun kh2=>aG fun kh3=>aB 1 rfl<|dY sl162 rfl<|aB 1 rfl<|aD kh3<|d4 rfl aA<|bZ kh2<|aG fun kh4=>?_
 refine aB 1 rfl<|f_Q (aM sl162 rfl rfl (off+0*3))<|f_Q (aQ (vs:=o9 l[0]) Tryz.isAgg165 Tryz.sizeOf165 rfl rfl (gV smCs_len X hc O))<|f_S (cX Tryz.zeroValue165 rfl fun b5=>?_)
 refine f_Z (bS Tryz.sizeOf165 rfl rfl rfl rfl cG (o9 l[0]) rfl ?_);refine aD kh4<|aV fun kh5=>aG fun Y=>aB 1 rfl<|aD Y<|aS ?_
 refine dF (α:=Nat×Sm) [0,1,4,5] (fun ⟨i,s⟩=>[(6,.int .i64 (i:Int))]) (fun ⟨i,s⟩=>[[(b5,blk (o9 s) 165)],[(b4,blk [.int .i64 0,.int .i64 0,.int .i64 0] 165)]]) (fun ⟨i,s⟩=>i≤l.length∧s∈l∧∀ t∈l.take i,nW s t≤0) (fun ⟨i,s⟩=>l.length - i) (1,l[0]) ?_ ?_ ?_ ?_
 ·exact aF
 ·exact aC
 ·exact ⟨aA,List.getElem_mem O,fun t U=>by rw [List.take_succ_eq_append_getElem O] at U;simp at U;subst U;exact befI_refl _⟩
 ·rintro ⟨i,s⟩ ⟨ab,hs,F⟩;refine aV fun Z=>aG fun kh8=>aB 2 rfl<|dY sl162 rfl<|aB 1 rfl<|aD kh8<|aX rfl (fun c17=>?_) (fun c17=>?_)
  ·have hi:i<l.length:=aA
   have J:=take_all hi F
   refine bZ Z<|aV fun kh9=>aS<|aV fun kh10=>cQ [[(b5,blk (o9 s) 165)]] rfl<|f_T 0 rfl (aR rfl)<|f_T 1 rfl (aR rfl)<|f_T 2 rfl (aR rfl)<|f_T 3 rfl (aM sl162 rfl rfl (off+i*3))<|f_T 4 rfl (aQ (vs:=o9 l[i]) Tryz.isAgg165 Tryz.sizeOf165 rfl rfl (gV smCs_len X hc hi)) ?_
   refine f_T 5 rfl (aQ (vs:=[_,_,_]) Tryz.isAgg165 Tryz.sizeOf165 rfl rfl ⟨(rdA rfl),(rdA rfl),(rdA rfl),trivial⟩) ?_;refine f_O 6 rfl (jE [] _ Tryz.call92 rfl rfl Sub.refl (fun w_ aa=>(by have h:=before_spec l[i] s w_ (hok _ (List.getElem_mem hi)) (hok _ hs);exact h)) ?_);rintro _ _ ⟨rfl,rfl⟩;dsimp only [aK,aJ];refine ⟨aC,?_⟩;refine f_T 7 rfl (o_lss rfl rfl)<|cO aU<|bP kh10<|aX rfl (fun c27=>?_) (fun c27=>?_)
   ·refine aI<|aB 2 rfl<|f_Q (aM sl162 rfl rfl (off+i*3))<|f_Q (aQ (vs:=o9 l[i]) Tryz.isAgg165 Tryz.sizeOf165 rfl rfl (gV smCs_len X hc hi))<|f_Z (bS Tryz.sizeOf165 rfl rfl rfl rfl cG (o9 l[i]) rfl ?_)
    refine aY<|dI<|bP kh9<|aI<|aB 1 rfl<|f_Q (bF rfl rfl)<|aB 1 rfl<|aY ?_
    refine cV (a6 (i+1,l[i]) (by first|omega|(dsimp only;omega)|(simp;omega)) ⟨aA,List.getElem_mem hi,J.1 aA⟩ ?_ ?_ ?_)
    ·exact aF
    ·exact aF
    ·exact aC
   ·refine dZ<|dI<|bP kh9<|aI<|aB 1 rfl<|f_Q (bF rfl rfl)<|aB 1 rfl<|aY ?_
    refine cV (a6 (i+1,s) (by first|omega|(dsimp only;omega)|(simp;omega)) ⟨aA,hs,J.2 aA⟩ ?_ ?_ ?_)
    ·exact aF
    ·exact aF
    ·exact aC
  ·refine cS<|cU<|cU<|eH<|bP kh5<|aG fun kh11=>f_Q (aQ (vs:=[_,_,_]) Tryz.isAgg165 Tryz.sizeOf165 rfl rfl ⟨(rdA rfl),(rdA rfl),(rdA rfl),trivial⟩)<|f_Z (bS Tryz.sizeOf165 rfl rfl rfl rfl cG (o9 s) rfl ?_)
   refine aD kh11<|aZ ?_
   exact f_finR1 [] Tryz.results91 (rvA (vs:=o9 s) Tryz.isAgg165 Tryz.sizeOf165 rfl rfl ⟨(rdA rfl),(rdA rfl),(rdA rfl),trivial⟩) aP ⟨s,rfl,hs,(by rw [List.take_of_length_le aA] at F;exact F),rfl⟩
end Go.Proofs.YthpkelafioikaaaGreat
namespace Go.Proofs.YthpkelafioikaaaGreat
open Go Fly
set_option linter.unusedVariables false
set_option linter.unusedSimpArgs false
set_option linter.unusedSectionVars false
theorem lc_zeroN {N:Int} {l:List Arc} {L:List Int} (hg:(cL N l).2=0) (F:eG N L=true):(fQ N l L).2=0:=by
 unfold fQ
 rw [if_neg (by rw [hg];simp),if_neg (by rw [F];simp)]
theorem spE_oneN {N:Int} {l:List Arc} {L:List Int} {bd:Int} (hg:(cL N l).2=0) (F:eG N L=true) (hb:1≤bd∧bd≤1024):spE N l L bd=0:=by
 unfold spE
 rw [if_neg (by rw [lc_zeroN hg F];simp),if_neg aA]
theorem right_cntN {n:Nat} {L:List Int} (O:eG (n:Int) L=true) (hn:1≤n) {j:Nat} (hj:j<(fC L+1).toNat):1≤cnt L j:=by
 have hl:=(d6 O).2
 have e:L=tdy L:=right_unique O (right_tdy hl) fun u v U hv=>(tdy_labN aA aA).symm
 have hm:=max_tdy (L:=L) aA
 rw [← e] at hm;have J:j<(sns L).length:=aA
 rw [e,cnt_tdy J]
 have F:(sns L)[j]∈L:=by
  have:=sns_sub (L:=L) (k:=L.length) (Nat.le_refl _) (sns L)[j] (by rw [List.take_length];exact List.getElem_mem _)
  exact this
 have:=cntI_pos F
 unfold gJ at this
 omega
theorem max_cntN {L:List Int} (F:0<(d3 L).length) {bd:Int} (h:∀ y,(gJ L y:Int)≤bd):fC (d3 L)≤bd:=mU F fun x hx=>by
 unfold d3 szs at hx
 obtain ⟨j,_,rfl⟩:=List.mem_map.1 hx
 exact h j
theorem lc_right {N:Int} {l:List Arc} {L:List Int} (hg:(cL N l).2=0) (h:(fQ N l L).2=0):eG N L=true:=by
 unfold fQ at h
 rw [if_neg (by rw [hg];simp)] at h
 by_cases F:eG N L=false
 ·rw [if_pos F] at h;cases h
 ·simpa using F
def k6 (N:Int) (l:List Arc) (c:List Int) (b:Int):Int:=if (fQ N l c).2≠0 then (fQ N l c).2 else if b<fC (d3 c) then 90 else 0
def iP (b a:List Int):Prop:=∀ u,u<b.length→∀ v,v<b.length→b.getD u 0=b.getD v 0→a.getD u 0=a.getD v 0
instance (b a:List Int):Decidable (iP b a):=by unfold iP;infer_instance
def m9 (bs:List Int):Nat→Int
 |0=>0
 |k+1=>bs.getD k 0
def lvE (N:Int) (l:List Arc) (bs:List Int) (L:List (List Int)) (k:Nat):Int:=
 if bs.getD k 0≤m9 bs k∨1024<bs.getD k 0 then 1 else if k6 N l (L.getD k []) (bs.getD k 0)≠0 then k6 N l (L.getD k []) (bs.getD k 0) else if 0<k∧¬ iP (L.getD (k - 1) []) (L.getD k []) then 110 else 0
def nsE (N:Int) (l:List Arc) (bs:List Int) (L:List (List Int)):Int×Int:=
 if (cL N l).2≠0 then (0,(cL N l).2) else if bs.length<1∨5<bs.length∨L.length≠bs.length then (0,111) else
 match (List.range bs.length).find? (fun k=>decide (lvE N l bs L k≠0)) with
 |some k=>((k:Int)+1,lvE N l bs L k)
 |none=>(0,0)
theorem find_first {m k:Nat} {p:Nat→Bool} (hk:k<m) (h:∀ j,j<k→p j=false) (hp:p k=true):(List.range m).find? p=some k:=by
 rw [List.find?_eq_some_iff_getElem];exact ⟨hp,k,by simpa using hk,aO,fun j hj=>by simp [h j hj]⟩
theorem find_none {m:Nat} {p:Nat→Bool} (h:∀ j,j<m→p j=false):(List.range m).find? p=none:=by
 rw [List.find?_eq_none];intro x hx;simp [h x (by simpa using hx)]
theorem nsE_at {N:Int} {l:List Arc} {bs:List Int} {L:List (List Int)} (hg:(cL N l).2=0) (hm:¬ (bs.length<1∨5<bs.length∨L.length≠bs.length)) {k:Nat} (hk:k<bs.length) (h:∀ j,j<k→lvE N l bs L j=0) (hp:lvE N l bs L k≠0):
  nsE N l bs L=((k:Int)+1,lvE N l bs L k):=by
 unfold nsE
 rw [if_neg (by rw [hg];simp),if_neg hm,find_first hk (fun j hj=>by simp [h j hj]) (by simpa using hp)]
theorem nsE_none {N:Int} {l:List Arc} {bs:List Int} {L:List (List Int)} (hg:(cL N l).2=0) (hm:¬ (bs.length<1∨5<bs.length∨L.length≠bs.length)) (h:∀ j,j<bs.length→lvE N l bs L j=0):nsE N l bs L=(0,0):=by
 unfold nsE
 rw [if_neg (by rw [hg];simp),if_neg hm,find_none fun j hj=>by simp [h j hj]]
structure NestOk (n:Nat) (l:List Arc) (bs:List Int) (L:List (List Int)):Prop where
 g:(cL (n:Int) l).2=0
 many:1≤bs.length∧bs.length≤5
 len:L.length=bs.length
 lv:∀ k,k<bs.length→lvE (n:Int) l bs L k=0
theorem nsE_zero {N:Int} {l:List Arc} {bs:List Int} {L:List (List Int)} (h:(nsE N l bs L).2=0):∃ n:Nat,N=(n:Int)∧NestOk n l bs L:=by
 unfold nsE at h
 by_cases hg:(cL N l).2=0
 ·rw [if_neg (by rw [hg];simp)] at h
  by_cases hm:bs.length<1∨5<bs.length∨L.length≠bs.length
  ·rw [if_pos hm] at h;cases h
  ·rw [if_neg hm] at h
   have hz:=cF hg
   obtain ⟨n,rfl⟩:∃ n:Nat,N=(n:Int):=⟨N.toNat,aA⟩
   refine ⟨n,rfl,hg,aA,aA,fun k hk=>?_⟩
   split at h
   ·rename_i j hj
    have:=List.find?_some hj
    simp only [decide_eq_true_eq] at this;exact absurd h this
   ·rename_i hn
    rw [List.find?_eq_none] at hn;have:=hn k (by simpa using hk)
    simpa using this
 ·rw [if_pos hg] at h;exact absurd h hg
theorem NestOk.zero {n:Nat} {l:List Arc} {bs:List Int} {L:List (List Int)} (h:NestOk n l bs L):nsE (n:Int) l bs L=(0,0):=nsE_none h.g (by have:=h.many;have:=h.len;omega) h.lv
theorem pP {n:Nat} {l:List Arc} {bs:List Int} {L:List (List Int)} (hg:(cL (n:Int) l).2=0) {k:Nat}:lvE (n:Int) l bs L k=0↔
  (m9 bs k<bs.getD k 0∧bs.getD k 0≤1024)∧eG (n:Int) (L.getD k [])=true∧(∀ y,(gJ (L.getD k []) y:Int)≤bs.getD k 0)∧(0<k→iP (L.getD (k - 1) []) (L.getD k [])):=by
 have hn:=cF hg
 have Z:k6 (n:Int) l (L.getD k []) (bs.getD k 0)=0↔eG (n:Int) (L.getD k [])=true∧∀ y,(gJ (L.getD k []) y:Int)≤bs.getD k 0:=by
  unfold k6
  constructor
  ·intro h
   by_cases h1:(fQ (n:Int) l (L.getD k [])).2=0
   ·have J:=lc_right hg h1
    rw [if_neg (by rw [h1];simp)] at h;refine ⟨J,fun y=>?_⟩
    have aa:fC (d3 (L.getD k []))≤bs.getD k 0:=by
     by_cases h2:bs.getD k 0<fC (d3 (L.getD k []))
     ·rw [if_pos h2] at h;cases h
     ·omega
    have F:=e7 J aA
    by_cases hy:y∈L.getD k []
    ·have h3:=F y hy
     obtain ⟨j,rfl⟩:∃ j:Nat,y=(j:Int):=⟨y.toNat,aA⟩
     have U:(cnt (L.getD k []) j:Int)∈d3 (L.getD k []):=by
      unfold d3 szs
      exact List.mem_map.2 ⟨j,by rw [List.mem_range];omega,rfl⟩
     have:=iL U
     rw [cnt_is] at this;omega
    ·rw [kT hy]
     have Y:0<(L.getD k []).length:=by have:=(d6 J).2;omega
     have O:=F _ (List.getElem_mem Y)
     have X:(cnt (L.getD k []) 0:Int)∈d3 (L.getD k []):=by
      unfold d3 szs
      exact List.mem_map.2 ⟨0,by rw [List.mem_range];omega,rfl⟩
     have:=iL X
     omega
   ·rw [if_pos h1] at h;exact absurd h h1
  ·rintro ⟨J,hs⟩
   have h1:=lc_zeroN hg J
   have F:=e7 J aA
   have Y:0<(L.getD k []).length:=by have:=(d6 J).2;omega
   have O:=F _ (List.getElem_mem Y)
   rw [if_neg (by rw [h1];simp),if_neg];have:=max_cntN (L:=L.getD k []) (by unfold d3;rw [gO];omega) hs
   omega
 unfold lvE
 by_cases h1:bs.getD k 0≤m9 bs k∨1024<bs.getD k 0
 ·rw [if_pos h1]
  constructor
  ·intro h;cases h
  ·rintro ⟨h2,_⟩;omega
 ·rw [if_neg h1]
  by_cases h2:k6 (n:Int) l (L.getD k []) (bs.getD k 0)=0
  ·rw [if_neg (by rw [h2];simp)]
   obtain ⟨h3,U⟩:=Z.1 h2
   by_cases O:0<k∧¬ iP (L.getD (k - 1) []) (L.getD k [])
   ·rw [if_pos O]
    constructor
    ·intro h;cases h
    ·rintro ⟨_,_,_,X⟩;exact absurd (X O.1) O.2
   ·rw [if_neg O]
    exact ⟨fun _=>⟨aA,h3,U,fun h=>Classical.byContradiction fun X=>O ⟨h,X⟩⟩,fun _=>rfl⟩
  ·rw [if_pos h2]
   constructor
   ·intro h;exact absurd h h2
   ·rintro ⟨_,h3,U,_⟩;exact Z.2 ⟨h3,U⟩
section
variable {n:Nat} {l:List Arc} {bs:List Int} {L:List (List Int)}
theorem NestOk.bnd (h:NestOk n l bs L) {k:Nat} (hk:k<bs.length):m9 bs k<bs.getD k 0∧bs.getD k 0≤1024:=((pP h.g).1 (h.lv k hk)).1
theorem NestOk.right (h:NestOk n l bs L) {k:Nat} (hk:k<bs.length):eG (n:Int) (L.getD k [])=true:=((pP h.g).1 (h.lv k hk)).2.1
theorem NestOk.size (h:NestOk n l bs L) {k:Nat} (hk:k<bs.length):∀ y,(gJ (L.getD k []) y:Int)≤bs.getD k 0:=((pP h.g).1 (h.lv k hk)).2.2.1
theorem NestOk.within (h:NestOk n l bs L) {k:Nat} (hk:k<bs.length) (F:0<k):iP (L.getD (k - 1) []) (L.getD k []):=((pP h.g).1 (h.lv k hk)).2.2.2 F
theorem NestOk.rowlen (h:NestOk n l bs L) {k:Nat} (hk:k<bs.length):(L.getD k []).length=n:=(d6 (h.right hk)).2
theorem NestOk.n1 (h:NestOk n l bs L):1≤n∧n≤1024:=by have:=cF h.g;omega
end
def lkE (N:Int) (l:List Arc) (bs:List Int) (L:List (List Int)) (q:Int):Int:=if (nsE N l bs L).2≠0 then (nsE N l bs L).2 else if q<1∨(bs.length:Int)<q then 111 else 0
def clE (N:Int) (l:List Arc) (bs:List Int) (L:List (List Int)) (q c:Int):Int:=if lkE N l bs L q≠0 then lkE N l bs L q else if c<0∨fC (L.getD (q.toNat - 1) [])+1≤c then 120 else 0
theorem lkE_zero {N:Int} {l:List Arc} {bs:List Int} {L:List (List Int)} {q:Int} (h:lkE N l bs L q=0):∃ n k:Nat,N=(n:Int)∧NestOk n l bs L∧q=(k:Int)+1∧k<bs.length:=by
 unfold lkE at h
 by_cases h1:(nsE N l bs L).2=0
 ·rw [if_neg (by rw [h1];simp)] at h
  obtain ⟨n,rfl,hok⟩:=nsE_zero h1
  by_cases h2:q<1∨(bs.length:Int)<q
  ·rw [if_pos h2] at h;cases h
  ·exact ⟨n,q.toNat - 1,rfl,hok,aA,aA⟩
 ·rw [if_pos h1] at h;exact absurd h h1
theorem kD {N:Int} {l:List Arc} {bs:List Int} {L:List (List Int)} {q c:Int} (h:clE N l bs L q c=0):∃ n k j:Nat,N=(n:Int)∧NestOk n l bs L∧q=(k:Int)+1∧k<bs.length∧c=(j:Int)∧(j:Int)<fC (L.getD k [])+1:=by
 unfold clE at h
 by_cases h1:lkE N l bs L q=0
 ·rw [if_neg (by rw [h1];simp)] at h
  obtain ⟨n,k,rfl,hok,rfl,hk⟩:=lkE_zero h1
  have e:((k:Int)+1).toNat - 1=k:=aA
  rw [e] at h
  by_cases h2:c<0∨fC (L.getD k [])+1≤c
  ·rw [if_pos h2] at h;cases h
  ·exact ⟨n,k,c.toNat,rfl,hok,rfl,hk,aA,aA⟩
 ·rw [if_pos h1] at h;exact absurd h h1
def mem (n:Nat) (L:List Int) (c:Int):List Int:=((List.range n).filter fun v=>decide (L.getD v 0=c)).map fun v:Nat=>(v:Int)
end Go.Proofs.YthpkelafioikaaaGreat
namespace Go.Proofs.YthpkelafioikaaaGreat
open Go Go.RowKit Fly
set_option maxRecDepth 100000
set_option maxHeartbeats 4000000
set_option linter.all false
abbrev Row:=Option Addr×List Int×Nat
abbrev fI (r:Row):Value:= .slice r.1 r.2.1.length r.2.2
def bJ (R:List Row):List (List Int):=R.map (·.2.1)
structure NestRo (S:Nat→Prop) (w:World) (Ab:Option Addr) (bs:List Int) (Ac:Option Addr) (R:List Row):Prop where
 b:Ro S w Ab (a8 bs)
 bl:bs.length≤9223372036854775807
 c:Ro S w Ac (R.map fI)
 cl:R.length≤9223372036854775807
 rows:∀ r∈R,Ro S w r.1 (a8 r.2.1)∧r.2.1.length≤9223372036854775807
theorem NestRo.up0 {S:Nat→Prop} {w0 w:World} {m:Seg} {J F:Option Addr} {bs:List Int} {R:List Row} (h:NestRo S w0 J bs F R) (hp:Hp S w0 m w):NestRo (Fr w []) w J bs F R:=
 ⟨h.b.up0 hp,h.bl,h.c.up0 hp,h.cl,fun r hr=>⟨(h.rows r hr).1.up0 hp,(h.rows r hr).2⟩⟩
theorem eZ (R:List Row):(bJ R).length=R.length:=by simp [bJ]
theorem iV {R:List Row} {k:Nat} (h:k<R.length):(bJ R).getD k []=R[k].2.1:=by simp [bJ,List.getD_eq_getElem?_getD,h]
theorem bs_at {bs:List Int} {k:Nat} (h:k<bs.length):bs.getD k 0=bs[k]:=by simp [List.getD_eq_getElem?_getD,h]
structure Wi (b a:List Int) (v:Nat) (ents:List (Int×Value×Nat)):Prop where
 yes:∀ u (h:u<b.length) (h' :u<a.length),u<v→eS ents b[u]=some (.int .i64 a[u])
 no:∀ c,c∉b.take v→eS ents c=none
theorem Wi.nil (b a:List Int):Wi b a 0 []:=⟨fun u _ _ h=>aA,fun c _=>rfl⟩
theorem Wi.val {b a:List Int} {v:Nat} {ents:List (Int×Value×Nat)} (h:Wi b a v ents) (hl:a.length=b.length) (c:Int):
  ∃ p : Int, (eS ents c).getD (.int .i64 0) = .int .i64 p ∧ (eS ents c).isSome = decide (c ∈ b.take v) ∧ (c ∈ b.take v → ∃ u, ∃ F : u < b.length, u < v ∧ b[u] = c ∧ a[u]'aA = p) := by
 by_cases hm:c∈b.take v
 ·obtain ⟨u,F,e⟩:=List.mem_iff_getElem.1 hm
  rw [List.getElem_take] at e;rw [List.length_take] at F;have:=h.yes u aA aA aA
  rw [e] at this;exact ⟨a[u]'aA, by rw [this]; rfl, by rw [this, decide_eq_true hm]; rfl, fun _ => ⟨u, aA, aA, e, rfl⟩⟩
 ·exact ⟨0,by rw [h.no c hm];rfl,by rw [h.no c hm,decide_eq_false hm];rfl,fun h=>absurd h hm⟩
theorem Wi.next {b a : List Int} {v : Nat} {ents : List (Int × Value × Nat)} (h : Wi b a v ents) (hl : a.length = b.length) (hv : v < b.length) (hs : b[v] ∈ b.take v → ∃ u, ∃ U : u < b.length, u < v ∧ b[u] = b[v] ∧ a[u]'aA = a[v]'aA) (k : Nat) : Wi b a (v + 1) (fW ents b[v] (.int .i64 (a[v]'aA)) k) where
 yes:=fun u U F X=>by
  rw [jI]
  by_cases e:b[u]=b[v]
  ·rw [if_pos e]
   by_cases e2:u=v
   ·subst e2;rfl
   ·have J:u<v:=aA
    have hm:b[v]∈b.take v:=by rw [← e];exact List.mem_iff_getElem.2 ⟨u,by rw [List.length_take];omega,List.getElem_take⟩
    obtain ⟨w,hw,O,Y,Z⟩:=hs hm
    have h1:=h.yes w hw aA O
    have h2:=h.yes u U F J
    rw [Y] at h1;rw [e,h1] at h2;rw [← Z];exact h2
  ·rw [if_neg e]
   refine h.yes u U F ?_
   by_cases e2:u=v
   ·subst e2;exact absurd rfl e
   ·omega
 no:=fun c hc=>by
  rw [List.take_succ_eq_append_getElem hv,List.mem_append,List.mem_singleton] at hc;rw [jI,if_neg (fun e=>hc (.inr e))];exact h.no c fun hm=>hc (.inl hm)
theorem Wi.all {b a:List Int} {ents:List (Int×Value×Nat)} (h:Wi b a b.length ents) (hl:a.length=b.length):iP b a:=fun u F v hv e=>by
 simp only [List.getD_eq_getElem?_getD,List.getElem?_eq_getElem F,List.getElem?_eq_getElem hv,List.getElem?_eq_getElem (show u<a.length by omega),List.getElem?_eq_getElem (show v<a.length by omega),Option.getD_some] at e ⊢;have h1:=h.yes u F aA F
 have h2:=h.yes v hv aA hv
 rw [e,h2] at h1;simp at h1;exact h1.symm
theorem not_within {b a : List Int} {u v : Nat} (hl : a.length = b.length) (J : u < b.length) (hv : v < b.length) (e : b[u] = b[v]) (F : a[u]'aA ≠ a[v]'aA) : ¬ iP b a := fun h => F (by
 have:=h u J v hv (by simp only [List.getD_eq_getElem?_getD,List.getElem?_eq_getElem J,List.getElem?_eq_getElem hv,Option.getD_some];exact e)
 simpa [List.getD_eq_getElem?_getD,show u<a.length by omega,show v<a.length by omega] using this)
def h8 (L:List Int) (c:Int) (k:Nat):List Int:=((List.range k).filter fun v=>decide (L.getD v 0=c)).map fun v:Nat=>(v:Int)
theorem memTo_yes {L:List Int} {c:Int} {k:Nat} (h:L.getD k 0=c):h8 L c (k+1)=h8 L c k++[(k:Int)]:=by
 unfold h8;rw [List.range_succ,List.filter_append,List.map_append,List.filter_cons,if_pos (decide_eq_true h)];rfl
theorem memTo_no {L:List Int} {c:Int} {k:Nat} (h:L.getD k 0≠c):h8 L c (k+1)=h8 L c k:=by
 unfold h8;rw [List.range_succ,List.filter_append,List.map_append,List.filter_cons,if_neg (by rw [decide_eq_false h];simp)];simp
theorem pO (L:List Int) (c:Int) (k:Nat):(h8 L c k).length≤k:=by
 unfold h8;rw [List.length_map];exact Nat.le_trans (List.length_filter_le _ _) aO
theorem spE_zeroN {N:Int} {l:List Arc} {L:List Int} {bd:Int} (h:spE N l L bd=0):∃ n:Nat,N=(n:Int)∧1≤n∧n≤1024∧(cL (n:Int) l).2=0∧eG (n:Int) L=true∧1≤bd∧bd≤1024:=by
 unfold spE at h
 by_cases h1:(fQ N l L).2=0
 ·rw [if_neg (by rw [h1];simp)] at h
  have hg:(cL N l).2=0:=by
   unfold fQ at h1
   by_cases h2:(cL N l).2=0
   ·exact h2
   ·rw [if_pos h2] at h1;exact absurd h1 h2
  have hz:=cF hg
  obtain ⟨n,rfl⟩:∃ n:Nat,N=(n:Int):=⟨N.toNat,aA⟩
  by_cases h3:bd<1∨1024<bd
  ·rw [if_pos h3] at h;cases h
  ·exact ⟨n,rfl,aA,aA,hg,lc_right hg h1,aA,aA⟩
 ·rw [if_pos h1] at h;exact absurd h h1
theorem SizesN_spec (N:Int) (A:Option Addr) (l:List Arc) (cap:Nat) (B:Option Addr) (L:List Int) (cb:Nat) (w:World) (hr:Ro (Fr w []) w A (l.flatMap cH)) (hl:l.length≤9223372036854775807) (hN:I64 N) (hok:∀ x∈l,eN x) (Y:Ro (Fr w []) w B (a8 L)) (hm:L.length≤9223372036854775807) (hz:spE N l L 1=0):
    Meets Tryz.prog 116 [.agg #[.int .i64 N,.slice A l.length cap],.slice B L.length cb] w [] (fun u own' =>∃ b,u= .tuple #[.slice (some ⟨b,0,none⟩) (fC L+1).toNat (fC L+1).toNat,.int .i64 0]∧own' =[[(b,blk (a8 (d3 L)) 3)]]):=by
 obtain ⟨n,rfl,U,Z,hg,X,_⟩:=spE_zeroN hz
 obtain rfl:L.length=n:=(d6 X).2
 have O:=e7 X U
 refine bG Tryz.func116 rfl Tryz.ntmps116 rfl Owns.nil<|aG fun kh1=>f_S (cZ rfl rfl fun b2=>?_)
 refine aB 2 rfl<|aD kh1<|aV fun kh2=>aG fun kh3=>f_Q (aQ (vs:=[_,_]) Tryz.isAgg24 Tryz.sizeOf24 rfl rfl ⟨(rdA rfl),(rdA rfl),trivial⟩)<|aB 1 rfl ?_
 refine f_S (aW Tryz.call86 rfl (fun J F=>splook_spec (L.length:Int) A B l cap L cb 1 J (hr.up0 F) hl hN hok (Y.up0 F) hm) ?_);rintro _ _ ⟨rfl,rfl⟩;rw [hz];dsimp only [aK,aJ];refine aB 1 rfl<|aD kh3<|aG fun kh4=>aB 2 rfl<|aD kh4<|d4 rfl aO<|bZ kh2<|aG fun kh5=>aB 1 rfl ?_
 refine f_S (aW Tryz.call88 rfl (fun J F=>p9 B L cb J (Y.up0 F) aA aA (fun x hx=>by have:=O x hx;omega)) ?_);rintro _ _ ⟨bs,rfl,rfl⟩;dsimp only [aK,aJ];refine aB 2 rfl<|aD kh5<|aZ ?_
 exact dB [[(bs,blk (a8 (d3 L)) 3)]] Tryz.results116 rfl rfl aC ⟨bs,rfl,rfl⟩
theorem first_spec (N:Int) (A:Option Addr) (l:List Arc) (cap:Nat) (B:Option Addr) (L:List Int) (cb:Nat) (b:Int) (w:World) (hr:Ro (Fr w []) w A (l.flatMap cH)) (hl:l.length≤9223372036854775807) (hN:I64 N) (hok:∀ x∈l,eN x) (hL:Ro (Fr w []) w B (a8 L)) (hm:L.length≤9223372036854775807) (hg:(cL N l).2=0):
    Meets Tryz.prog 70 [.agg #[.int .i64 N,.slice A l.length cap],.slice B L.length cb,.int .i64 b] w [] (fun u m=>u= .int .i64 (k6 N l L b)∧m=[]):=by
 refine bG Tryz.func70 rfl Tryz.ntmps70 rfl Owns.nil<|aG fun kh1=>f_S (cZ rfl rfl fun b3=>?_)
 refine aB 1 rfl<|aD kh1<|aV fun kh2=>aG fun kh3=>f_Q (aQ (vs:=[_,_]) Tryz.isAgg24 Tryz.sizeOf24 rfl rfl ⟨(rdA rfl),(rdA rfl),trivial⟩)<|aB 1 rfl ?_
 refine f_S (aW Tryz.call115 rfl (fun Z F=>Count_spec N A B l cap L cb Z (hr.up0 F) hl hN hok (hL.up0 F) hm) ?_);rintro _ _ ⟨rfl,rfl⟩;dsimp only [aK,aJ];refine aB 5 rfl<|aD kh3<|aG fun kh4=>aB 2 rfl<|aD kh4<|aX rfl (fun c18=>?_) (fun c18=>?_)
 ·refine aG fun ac=>aB 2 rfl<|aD ac<|aZ<|dA ?_
  exact bO [] Tryz.results70 rfl aP ⟨by unfold k6;rw [if_pos (by simpa using c18)],rfl⟩
 ·have J:(fQ N l L).2=0:=by simpa using c18
  have hR:=lc_right hg J
  have ag:=cF hg
  have ab:=spE_oneN hg hR (bd:=1) aA
  obtain ⟨n,aa⟩:∃ n:Nat,N=(n:Int):=⟨N.toNat,aA⟩
  have X:eG (n:Int) L=true:=by rw [← aa];exact hR
  have ad:=e7 X aA
  have ae:=(d6 X).2
  have ah:=ad _ (List.getElem_mem (show 0<L.length by omega))
  have O:(d3 L).length=(fC L+1).toNat:=gO _ _
  refine bZ kh2<|aG fun kh6=>f_Q (aQ (vs:=[_,_]) Tryz.isAgg24 Tryz.sizeOf24 rfl rfl ⟨(rdA rfl),(rdA rfl),trivial⟩)<|aB 1 rfl ?_
  refine f_S (aW Tryz.call116 rfl (fun Z F=>SizesN_spec N A l cap B L cb Z (hr.up0 F) hl hN hok (hL.up0 F) hm ab) ?_);rintro _ _ ⟨U,rfl,rfl⟩;dsimp only [aK,aJ];refine aB 5 rfl<|aD kh6<|aV fun kh7=>aG fun kh8=>aB 2 rfl<|aD kh8<|d4 rfl aO<|bZ kh7<|aV fun kh9=>aG fun kh10=>?_
  refine aB 1 rfl ?_;refine f_S (aW Tryz.call87 rfl (fun Z F=>(by have h:=nZ (some ⟨U,0,none⟩) (d3 L) (fC L+1).toNat Z (fK (b:=U) F (cs:=a8 (d3 L)) (fun j v hj=>hj)) (by rw [O];omega) (by rw [O];omega);rw [O] at h;exact h)) ?_);rintro _ _ ⟨rfl,rfl⟩;dsimp only [aK,aJ];refine aB 2 rfl<|aD kh10<|aX rfl (fun c32=>?_) (fun c32=>?_)
  ·refine aG fun Y=>aB 1 rfl<|aD Y<|aZ<|dA ?_
   exact bO [] Tryz.results70 rfl aP ⟨by unfold k6;rw [if_neg (by rw [J];simp),if_pos aA],rfl⟩
  ·refine bZ kh9<|aG fun kh12=>aB 1 rfl<|aD kh12<|aZ ?_
   exact bO [] Tryz.results70 rfl aP ⟨by unfold k6;rw [if_neg (by rw [J];simp),if_neg aA],rfl⟩
theorem within_spec (B C:Option Addr) (b a:List Int) (cb ca la:Nat) (w:World) (hb:Ro (Fr w []) w B (a8 b)) (ha:Ro (Fr w []) w C (a8 a)) (aa:a.length=la) (hl:a.length=b.length) (hm:b.length≤1024):
    Meets Tryz.prog 71 [.slice B b.length cb,.slice C la ca] w [] (fun u m=>u= .bool (decide (iP b a))∧m=[]):=by
 subst aa;refine bG Tryz.func71 rfl Tryz.ntmps71 rfl Owns.nil<|aG fun kh1=>aB 1 rfl<|aD kh1<|aG fun kh2=>f_S (iY fun ag=>?_)
 refine aB 1 rfl<|aD kh2<|aV fun kh3=>aG fun ac=>aB 1 rfl<|dY bU rfl<|aB 1 rfl<|aD ac<|aS ?_
 refine dF (α:=Nat×List (Int×Value×Nat)×Nat) [1,5,11,12] (fun ⟨v,ents,F⟩=>[(13,.int .i64 (v:Int))]) (fun ⟨v,ents,F⟩=>[[(ag,e9 (fun x:Int=> .int .i64 x) ents F)]]) (fun ⟨v,ents,F⟩=>v≤b.length∧MOk ents F∧Wi b a v ents) (fun ⟨v,ents,F⟩=>b.length - v) (0,[],0) ?_ ?_ ?_ ?_
 ·exact aF
 ·exact aC
 ·exact ⟨Nat.zero_le _,MOk.nil,Wi.nil b a⟩
 ·rintro ⟨v,ents,F⟩ ⟨ah,hmap,hW⟩;refine aG fun kh5=>aB 1 rfl<|aD kh5<|aV fun kh6=>aX rfl (fun ab=>?_) (fun ab=>?_)
  ·have hv:v<b.length:=aA
   have O:v<a.length:=aA
   obtain ⟨b1,o1,rfl,ae,ad⟩:=hb (fun e=>by have:=a7 b;rw [e] at this;simp at this;omega)
   obtain ⟨b2,o2,rfl,J,U⟩:=ha (fun e=>by have:=a7 a;rw [e] at this;simp at this;omega)
   obtain ⟨p,hp1,hp2,Y⟩:=hW.val hl b[v]
   refine bZ kh6<|aV fun kh7=>aS<|aG fun kh8=>aB 1 rfl<|f_Q (aM bU rfl rfl (o1+v))<|f_Q (aH Tryz.isAgg3 rfl (eC (enc:=(.int .i64 ·)) ae ad hv))<|aB 2 rfl<|aD kh8<|aV fun kh9=>?_
   refine aG fun kh10=>aB 2 rfl<|f_Q (o_lookup2 kt201 Tryz.zeroValue3 rfl rfl rfl (.int .i64 p) hp1 (decide (b[v]∈b.take v)) hp2)<|aB 5 rfl<|aD kh10<|aG fun kh11=>aB 2 rfl<|eA 25 rfl (fun g25=>?_) (fun g25=>?_)
   ·refine aB 3 rfl<|eI rfl rfl (aM bU rfl rfl (o2+v))<|eI rfl rfl (aH Tryz.isAgg3 rfl (eC (enc:=(.int .i64 ·)) J U O))<|aB 2 rfl<|aD kh11<|aX rfl (fun c32=>?_) (fun c32=>?_)
    ·refine aG fun X=>aB 1 rfl<|aD X<|aZ<|dA<|fA<|dA<|dA<|fA<|dA ?_
     obtain ⟨u,hu,Z,e1,e2⟩:=Y (by simpa using g25)
     exact bO [] Tryz.results71 rfl aC ⟨by rw [decide_eq_false (not_within hl hu hv e1 aA)],rfl⟩
    ·refine bZ kh9<|aI<|aB 4 rfl<|f_Q (aM bU rfl rfl (o2+v))<|f_Q (aH Tryz.isAgg3 rfl (eC (enc:=(.int .i64 ·)) J U O))<|f_Z (fB kt201 rfl rfl rfl rfl ?_)
     refine aY<|dI<|bP kh7<|aI<|f_Q (bF rfl rfl)<|aB 1 rfl<|aY ?_
     refine cV (a6 (v+1,fW ents b[v] (.int .i64 a[v]) F,fM ents b[v] F) (by first|omega|(dsimp only;omega)|(simp;omega)) ⟨aA,hmap.put _ _,hW.next hl hv (fun hm=>by obtain ⟨u,hu,Z,e1,e2⟩:=Y hm;exact ⟨u,hu,Z,e1,aA⟩) _⟩ ?_ ?_ ?_)
     ·exact aF
     ·exact aF
     ·exact aC
   ·refine aB 7 rfl<|aD kh11<|h7 rfl<|bZ kh9<|aI<|aB 4 rfl<|f_Q (aM bU rfl rfl (o2+v))<|f_Q (aH Tryz.isAgg3 rfl (eC (enc:=(.int .i64 ·)) J U O))<|f_Z (fB kt201 rfl rfl rfl rfl ?_)
    refine aY<|dI<|bP kh7<|aI<|f_Q (bF rfl rfl)<|aB 1 rfl<|aY ?_
    refine cV (a6 (v+1,fW ents b[v] (.int .i64 a[v]) F,fM ents b[v] F) (by first|omega|(dsimp only;omega)|(simp;omega)) ⟨aA,hmap.put _ _,hW.next hl hv (fun hm=>absurd hm (by simpa using g25)) _⟩ ?_ ?_ ?_)
    ·exact aF
    ·exact aF
    ·exact aC
  ·refine cS<|cU<|cU<|eH<|bP kh3<|aG fun kh13=>aB 1 rfl<|aD kh13<|aZ ?_
   obtain rfl:v=b.length:=aA
   exact bO [] Tryz.results71 rfl aC ⟨by rw [decide_eq_true (hW.all hl)],rfl⟩
theorem nbounded_spec (b c:Int) (w:World):
    Meets Tryz.prog 69 [.int .i64 b,.int .i64 c] w [] (fun u m=>u= .bool (decide (c<b∧b≤1024))∧m=[]):=by
 refine bG Tryz.func69 rfl Tryz.ntmps69 rfl Owns.nil<|aG fun kh1=>aB 1 rfl<|aD kh1<|aG fun kh2=>aB 4 rfl<|eA 8 rfl (fun g8=>?_) (fun g8=>?_)
 ·refine aB 4 rfl<|aD kh2<|aZ ?_
  exact bO [] Tryz.results69 rfl aP ⟨by congr 1;apply decide_eq_decide.2;omega,rfl⟩
 ·refine aB 4 rfl<|aD kh2<|aZ ?_
  exact bO [] Tryz.results69 rfl aP ⟨by rw [decide_eq_false aA],rfl⟩
theorem oO (N:Int) (A:Option Addr) (l:List Arc) (cap:Nat) (Ab:Option Addr) (bs:List Int) (cb:Nat) (Ac:Option Addr) (R:List Row) (cc:Nat) (w:World) (hr:Ro (Fr w []) w A (l.flatMap cH)) (hl:l.length≤9223372036854775807) (hN:I64 N) (hok:∀ x∈l,eN x) (hn:NestRo (Fr w []) w Ab bs Ac R):
    Meets Tryz.prog 38 [.agg #[.int .i64 N,.slice A l.length cap],.agg #[.slice Ab bs.length cb,.slice Ac R.length cc]] w [] (fun u m=>u= .tuple #[.int .i64 (nsE N l bs (bJ R)).1,.int .i64 (nsE N l bs (bJ R)).2]∧m=[]):=by
 have aw:=eZ R
 refine bG Tryz.func38 rfl Tryz.ntmps38 rfl Owns.nil<|aG fun kh1=>f_S (cZ rfl rfl fun b2=>?_)
 refine f_S (cZ rfl rfl fun b3=>?_);refine aB 2 rfl<|aD kh1<|aV fun kh2=>aG fun kh3=>f_Q (aQ (vs:=[_,_]) Tryz.isAgg24 Tryz.sizeOf24 rfl rfl ⟨(rdA rfl),(rdA rfl),trivial⟩) ?_
 refine f_S (aW Tryz.call20 rfl (fun w_ X=>gF N A l cap w_ (hr.up0 X) hl hN hok) ?_);rintro _ _ ⟨rfl,rfl⟩;dsimp only [aK,aJ];refine aB 5 rfl<|aD kh3<|aG fun kh4=>aB 2 rfl<|aD kh4<|aX rfl (fun c18=>?_) (fun c18=>?_)
 ·refine aG fun aq=>aB 3 rfl<|aD aq<|aZ<|dA ?_
  have e:nsE N l bs (bJ R)=(0,(cL N l).2):=by unfold nsE;rw [if_pos (by simpa using c18)]
  exact dB [] Tryz.results38 rfl rfl aP ⟨by rw [e],rfl⟩
 ·have hg:(cL N l).2=0:=by simpa using c18
  have av:=cF hg
  refine bZ kh2<|aV fun kh6=>aG fun kh7=>cN fa34_0 rfl<|c7 Tryz.isAgg25 rfl (rdA rfl)<|dY bU rfl<|aB 2 rfl<|eA 24 rfl (fun g24=>?_) (fun g24=>?_)
  ·refine aB 14 rfl<|aD kh7<|eW rfl<|aG fun kh8=>aB 2 rfl<|aD kh8<|aZ<|dA ?_
   have e:nsE N l bs (bJ R)=(0,111):=by unfold nsE;rw [if_neg (by rw [hg];simp),if_pos aA]
   exact dB [] Tryz.results38 rfl rfl aP ⟨by rw [e],rfl⟩
  ·refine eI rfl rfl (aT fa34_0 rfl)<|eI rfl rfl (aH Tryz.isAgg25 rfl (rdA rfl))<|eI rfl rfl (iZ bU rfl)<|aB 3 rfl<|eA 30 rfl (fun g30=>?_) (fun g30=>?_)
   ·refine aB 8 rfl<|aD kh7<|eW rfl<|aG fun kh9=>aB 2 rfl<|aD kh9<|aZ<|dA ?_
    have e:nsE N l bs (bJ R)=(0,111):=by unfold nsE;rw [if_neg (by rw [hg];simp),if_pos aA]
    exact dB [] Tryz.results38 rfl rfl aP ⟨by rw [e],rfl⟩
   ·refine eI rfl rfl (aT jF rfl)<|eI rfl rfl (aH Tryz.isAgg32 rfl (rdA rfl))<|eI rfl rfl (iZ g5 rfl)<|eI rfl rfl (aT fa34_0 rfl)<|eI rfl rfl (aH Tryz.isAgg25 rfl (rdA rfl))<|eI rfl rfl (iZ bU rfl)<|aB 2 rfl<|aD kh7<|aX rfl (fun c38=>?_) (fun c38=>?_)
    ·refine aG fun ah=>aB 2 rfl<|aD ah<|aZ<|dA ?_
     have e:nsE N l bs (bJ R)=(0,111):=by unfold nsE;rw [if_neg (by rw [hg];simp),if_pos aA]
     exact dB [] Tryz.results38 rfl rfl aP ⟨by rw [e],rfl⟩
    ·have aa:¬ (bs.length<1∨5<bs.length∨(bJ R).length≠bs.length):=aA
     have au:R.length=bs.length:=aA
     refine bZ kh6<|aG fun kh11=>aB 1 rfl<|aD kh11<|aV fun kh12=>aG fun ag=>cN fa34_0 rfl<|c7 Tryz.isAgg25 rfl (rdA rfl)<|dY bU rfl<|aB 1 rfl ?_
     refine aD ag<|aS ?_
     refine dF (α:=Nat) [2,3,40,41] (fun k=>[(42,.int .i64 (k:Int)),(8,.int .i64 (m9 bs k))]) (fun k=>[[(b2,blk [.int .i64 N,.slice A l.length cap] 24)],[(b3,blk [.slice Ab bs.length cb,.slice Ac R.length cc] 34)]]) (fun k=>k≤bs.length∧∀ j,j<k→lvE N l bs (bJ R) j=0) (fun k=>bs.length - k) (0) ?_ ?_ ?_ ?_
     ·exact aF
     ·exact aC
     ·exact ⟨Nat.zero_le _,fun j h=>aA⟩
     ·rintro k ⟨ax,U⟩;refine aG fun kh14=>aB 1 rfl<|aD kh14<|aV fun kh15=>aX rfl (fun an=>?_) (fun an=>?_)
      ·have hk:k<bs.length:=aA
       have F:k<R.length:=aA
       obtain ⟨b1,o1,rfl,ar,am⟩:=hn.b (fun e=>by have:=a7 bs;rw [e] at this;simp at this;omega)
       obtain ⟨b2,o2,rfl,ab,ac⟩:=hn.c (gX F)
       have J : lvE N l bs (bJ R) k = if bs[k] ≤ m9 bs k ∨ 1024 < bs[k] then 1 else if k6 N l (R[k]'F).2.1 bs[k] ≠ 0 then k6 N l (R[k]'F).2.1 bs[k] else if 0 < k ∧ ¬ iP ((bJ R).getD (k - 1) []) (R[k]'F).2.1 then 110 else 0 := by unfold lvE; rw [bs_at hk, iV F]
       refine bZ kh15<|aV fun kh16=>aS<|aG fun kh17=>aB 1 rfl<|f_Q (aM bU rfl rfl (o1+k))<|f_Q (aH Tryz.isAgg3 rfl (eC (enc:=(.int .i64 ·)) ar am hk))<|aB 2 rfl<|aD kh17<|aV fun kh18=>?_
       refine aG fun kh19=>aB 2 rfl ?_;refine f_S (aW Tryz.call69 rfl (fun w_ X=>nbounded_spec bs[k] (m9 bs k) w_) ?_);rintro _ _ ⟨rfl,rfl⟩;dsimp only [aK,aJ];refine aB 1 rfl<|aD kh19<|e8 rfl (fun c50=>?_) (fun c50=>?_)
       ·have Z:bs[k]≤m9 bs k∨1024<bs[k]:=by simp at c50;omega
        refine aG fun ad=>aB 1 rfl<|f_Q (bF rfl rfl)<|aB 2 rfl<|aD ad<|aZ<|dA<|fA<|dA<|dA ?_
        refine fA<|dA ?_
        have e:=nsE_at hg aa hk U (by rw [J,if_pos Z];decide)
        exact dB [] Tryz.results38 rfl rfl aP ⟨by rw [e,J,if_pos Z],rfl⟩
       ·have Z:¬ (bs[k]≤m9 bs k∨1024<bs[k]):=by simp at c50;omega
        rw [if_neg Z] at J;refine bZ kh18<|aG fun kh21=>aB 2 rfl<|aD kh21<|aV fun kh22=>aV fun kh23=>gG 7 rfl aU<|dG (aQ (vs:=[_,_]) Tryz.isAgg24 Tryz.sizeOf24 rfl rfl ⟨(rdA rfl),(rdA rfl),trivial⟩)<|dG (aT jF rfl)<|gH Tryz.isAgg32 rfl (rdA rfl) ?_
        refine dN 1 rfl<|dG (aM g5 rfl rfl (o2+k))<|dG (aH Tryz.isAgg25 rfl (eC (enc:=fI) ab ac F))<|dN 1 rfl<|eK (i3 ?_)
        refine f_S (aW Tryz.call70 rfl (fun w_ X => first_spec N A l cap (R[k]'F).1 (R[k]'F).2.1 (R[k]'F).2.2 bs[k] w_ (hr.up0 X) hl hN hok ((hn.rows _ (List.getElem_mem F)).1.up0 X) (hn.rows _ (List.getElem_mem F)).2 hg) ?_);rintro _ _ ⟨rfl, rfl⟩;dsimp only [aK, aJ];refine aB 1 rfl <| aD kh23 <| aG fun kh24 => aB 2 rfl <| aD kh24 <| aX rfl (fun c63 => ?_) (fun c63 => ?_)
        ·have Y : k6 N l (R[k]'F).2.1 bs[k] ≠ 0 := by simpa using c63
         rw [if_pos Y] at J;refine aG fun ae=>aB 1 rfl<|f_Q (bF rfl rfl)<|aB 3 rfl<|aD ae<|aZ<|dA<|fA<|dA<|dA ?_
         refine fA<|dA ?_
         have e:=nsE_at hg aa hk U (by rw [J];exact Y)
         exact dB [] Tryz.results38 rfl rfl aP ⟨by rw [e,J],rfl⟩
        ·have Y : k6 N l (R[k]'F).2.1 bs[k] = 0 := by simpa using c63
         rw [if_neg (by rw [Y];simp)] at J;refine bZ kh22<|aV fun kh26=>gG 14 rfl aU<|dN 3 rfl<|f_splitS 69 rfl (fun g69=>?_) (fun g69=>?_)
         ·have aj:0<k:=aA
          have O:k - 1<R.length:=aA
          obtain ⟨n,rfl⟩:∃ n:Nat,N=(n:Int):=⟨N.toNat,aA⟩
          have al : (R[k]'F).2.1.length = n := by
            unfold k6 at Y
            by_cases h1 : (fQ (n : Int) l (R[k]'F).2.1).2 = 0
            ·exact (d6 (lc_right hg h1)).2
            ·rw [if_pos h1] at Y;exact absurd Y h1
          have ap : (R[k - 1]'O).2.1.length = n := by
            have h2:=((pP hg).1 (U (k - 1) aA)).2.1
            rw [iV O] at h2;exact (d6 h2).2
          refine dR rfl rfl rfl rfl rfl (aT jF rfl)<|dR rfl rfl rfl rfl rfl (aH Tryz.isAgg32 rfl (rdA rfl))<|dN 1 rfl<|dR rfl rfl rfl rfl rfl (j5 rfl rfl _ (Eq.trans (d8 aA) (show _=((k - 1:Nat):Int) by omega))) ?_;refine dR rfl rfl rfl rfl rfl (aM g5 rfl rfl (o2+(k - 1)))<|dR rfl rfl rfl rfl rfl (aH Tryz.isAgg25 rfl (eC (enc:=fI) ab ac O))<|dR rfl rfl rfl rfl rfl (aT jF rfl)<|dR rfl rfl rfl rfl rfl (aH Tryz.isAgg32 rfl (rdA rfl))<|dN 1 rfl<|dR rfl rfl rfl rfl rfl (aM g5 rfl rfl (o2+k))<|dR rfl rfl rfl rfl rfl (aH Tryz.isAgg25 rfl (eC (enc:=fI) ab ac F))<|eK (i3 ?_)
          refine k9 rfl rfl rfl rfl rfl (aW Tryz.call71 rfl (fun w_ X => within_spec (R[k - 1]'O).1 (R[k]'F).1 (R[k - 1]'O).2.1 (R[k]'F).2.1 (R[k - 1]'O).2.2 (R[k]'F).2.2 (R[k]'F).2.1.length w_ ((hn.rows _ (List.getElem_mem O)).1.up0 X) ((hn.rows _ (List.getElem_mem F)).1.up0 X) rfl aA aA) ?_);rintro _ _ ⟨rfl, rfl⟩;dsimp only [aK, aJ];refine aB 2 rfl <| aD kh26 <| e8 rfl (fun c83 => ?_) (fun c83 => ?_)
          ·have ao : ¬ iP (R[k - 1]'O).2.1 (R[k]'F).2.1 := by simpa using c83
           rw [if_pos ⟨aj,by rw [iV O];exact ao⟩] at J;refine aG fun ai=>aB 1 rfl<|f_Q (bF rfl rfl)<|aB 2 rfl<|aD ai<|aZ<|fA<|dA<|dA<|fA ?_
           refine dA ?_;have e:=nsE_at hg aa hk U (by rw [J];decide)
           exact dB [] Tryz.results38 rfl rfl aP ⟨by rw [e,J],rfl⟩
          ·have ak : iP (R[k - 1]'O).2.1 (R[k]'F).2.1 := by simpa using c83
           rw [if_neg (fun h=>h.2 (by rw [iV O];exact ak))] at J;refine dZ<|dI<|bP kh16<|aI<|f_Q (bF rfl rfl)<|aB 1 rfl<|aY<|f_reQ 8 rfl (v:= .int .i64 (m9 bs (k+1))) (by show _=Value.int .i64 (bs.getD k 0);rw [bs_at hk]) ?_
           refine cV (a6 (k+1) (by first|omega|(dsimp only;omega)|(simp;omega)) ⟨aA,fun j hj=>by
             by_cases e:j=k
             ·subst e;rw [J]
             ·exact U j aA⟩ ?_ ?_ ?_)
           ·exact aF
           ·exact aF
           ·exact aC
         ·rw [if_neg (fun h=>aA)] at J;refine dN 11 rfl<|eK (i3 ?_)
          refine aB 3 rfl<|aD kh26<|h7 rfl<|dZ<|dI<|bP kh16<|aI<|f_Q (bF rfl rfl)<|aB 1 rfl<|aY ?_
          refine f_reQ 8 rfl (v:= .int .i64 (m9 bs (k+1))) (by show _=Value.int .i64 (bs.getD k 0);rw [bs_at hk]) ?_
          refine cV (a6 (k+1) (by first|omega|(dsimp only;omega)|(simp;omega)) ⟨aA,fun j hj=>by
            by_cases e:j=k
            ·subst e;rw [J]
            ·exact U j aA⟩ ?_ ?_ ?_)
          ·exact aF
          ·exact aF
          ·exact aC
      ·refine cS<|cU<|cU<|eH<|bP kh12<|aG fun kh28=>aB 2 rfl<|aD kh28<|aZ ?_
       have e:=nsE_none hg aa (fun j hj=>U j aA)
       exact dB [] Tryz.results38 rfl rfl aP ⟨by rw [e],rfl⟩
theorem at_spec (J:Option Addr) (bs:List Int) (cb:Nat) (F:Option Addr) (R:List Row) (cc:Nat) (q:Nat) (w:World) (hn:NestRo (Fr w []) w J bs F R) (hq:q<R.length):
    Meets Tryz.prog 152 [.agg #[.slice J bs.length cb,.slice F R.length cc],.int .i64 ((q:Int)+1)] w [] (fun u m=>u= .agg #[fI R[q],.int .i64 ((q:Int)+1)]∧m=[]):=by
 obtain ⟨Z,O,rfl,X,hc⟩:=hn.c (gX hq)
 have U:=hn.cl
 refine bG Tryz.func152 rfl Tryz.ntmps152 rfl Owns.nil<|aG fun kh1=>f_S (cZ rfl rfl fun b2=>?_)
 refine f_S (cX Tryz.zeroValue171 rfl fun Y=>?_);refine aD kh1<|aG fun kh2=>cN jF rfl<|c7 Tryz.isAgg32 rfl (rdA rfl)<|aB 1 rfl<|f_Q (j5 rfl rfl _ (Eq.trans (d8 aA) (show _=(q:Int) by omega))) ?_
 refine f_Q (aM g5 rfl rfl (O+q))<|f_Q (aH Tryz.isAgg25 rfl (eC (enc:=fI) X hc hq))<|aB 1 rfl<|f_Q (dU (cs:=[fI R[q],.int .i64 ((q:Int)+1)]) st171 rfl rfl)<|f_Z (bS Tryz.sizeOf171 rfl rfl rfl rfl cG [fI R[q],.int .i64 ((q:Int)+1)] rfl ?_)
 refine aD kh2<|aZ ?_
 exact f_finR1 [] Tryz.results152 (rvA (vs:=[fI R[q],.int .i64 ((q:Int)+1)]) Tryz.isAgg171 Tryz.sizeOf171 rfl rfl ⟨(rdA rfl),(rdA rfl),trivial⟩) aC ⟨rfl,rfl⟩
theorem nlooked_spec (N:Int) (A:Option Addr) (l:List Arc) (cap:Nat) (X:Option Addr) (bs:List Int) (cb:Nat) (U:Option Addr) (R:List Row) (cc:Nat) (q:Int) (w:World) (hr:Ro (Fr w []) w A (l.flatMap cH)) (hl:l.length≤9223372036854775807) (hN:I64 N) (hok:∀ x∈l,eN x) (hn:NestRo (Fr w []) w X bs U R):
    Meets Tryz.prog 117 [.agg #[.int .i64 N,.slice A l.length cap],.agg #[.slice X bs.length cb,.slice U R.length cc],.int .i64 q] w [] (fun u m=>∃ (r:Row) (x:Int),u= .tuple #[.agg #[fI r,.int .i64 x],.int .i64 (lkE N l bs (bJ R) q)]∧m=[]∧(lkE N l bs (bJ R) q=0→x=q∧R[(q - 1).toNat]? =some r)):=by
 have ad:=eZ R
 refine bG Tryz.func117 rfl Tryz.ntmps117 rfl Owns.nil<|aG fun kh1=>f_S (cZ rfl rfl fun b3=>?_)
 refine f_S (cZ rfl rfl fun b4=>?_);refine f_S (cX Tryz.zeroValue171 rfl fun b6=>?_);refine aB 1 rfl<|aD kh1<|aV fun kh2=>aG fun kh3=>f_Q (aQ (vs:=[_,_]) Tryz.isAgg24 Tryz.sizeOf24 rfl rfl ⟨(rdA rfl),(rdA rfl),trivial⟩)<|f_Q (aQ (vs:=[_,_]) Tryz.isAgg34 Tryz.sizeOf34 rfl rfl ⟨(rdA rfl),(rdA rfl),trivial⟩) ?_
 refine f_S (aW Tryz.call38 rfl (fun w_ J=>oO N A l cap X bs cb U R cc w_ (hr.up0 J) hl hN hok (hn.up0 J)) ?_);rintro _ _ ⟨rfl,rfl⟩;dsimp only [aK,aJ];refine aB 5 rfl<|aD kh3<|aG fun kh4=>aB 2 rfl<|aD kh4<|aX rfl (fun c17=>?_) (fun c17=>?_)
 ·refine aG fun aa=>f_Q (dU (cs:=[fI (none,[],0),.int .i64 0]) st171 rfl rfl)<|aB 1 rfl<|f_Z (bS Tryz.sizeOf171 rfl rfl rfl rfl cG [fI (none,[],0),.int .i64 0] rfl ?_)
  refine aB 1 rfl<|aD aa<|aZ<|dA ?_
  have e:lkE N l bs (bJ R) q=(nsE N l bs (bJ R)).2:=by unfold lkE;rw [if_pos (by simpa using c17)]
  exact gT (vs:=[fI (none,[],0),.int .i64 0]) [] Tryz.results117 rfl Tryz.isAgg171 Tryz.sizeOf171 rfl ⟨(rdA rfl),(rdA rfl),trivial⟩ rfl aC ⟨(none,[],0),0,by rw [e],rfl,fun h=>absurd (e.symm.trans h) (by simpa using c17)⟩
 ·refine bZ kh2<|aV fun kh6=>aG fun kh7=>aB 3 rfl<|eA 22 rfl (fun g22=>?_) (fun g22=>?_)
  ·refine aB 6 rfl<|aD kh7<|eW rfl<|aG fun kh8=>f_Q (dU (cs:=[fI (none,[],0),.int .i64 0]) st171 rfl rfl)<|f_Z (bS Tryz.sizeOf171 rfl rfl rfl rfl cG [fI (none,[],0),.int .i64 0] rfl ?_)
   refine aB 1 rfl<|aD kh8<|aZ<|dA ?_
   have e:lkE N l bs (bJ R) q=111:=by unfold lkE;rw [if_neg (by simpa using c17),if_pos aA]
   exact gT (vs:=[fI (none,[],0),.int .i64 0]) [] Tryz.results117 rfl Tryz.isAgg171 Tryz.sizeOf171 rfl ⟨(rdA rfl),(rdA rfl),trivial⟩ rfl aC ⟨(none,[],0),0,by rw [e],rfl,fun h=>absurd (e.symm.trans h) (by decide)⟩
  ·refine aB 1 rfl<|eI rfl rfl (aT fa34_0 rfl)<|eI rfl rfl (aH Tryz.isAgg25 rfl (rdA rfl))<|eI rfl rfl (iZ bU rfl)<|aB 2 rfl<|aD kh7<|aX rfl (fun c28=>?_) (fun c28=>?_)
   ·refine aG fun Z=>f_Q (dU (cs:=[fI (none,[],0),.int .i64 0]) st171 rfl rfl)<|f_Z (bS Tryz.sizeOf171 rfl rfl rfl rfl cG [fI (none,[],0),.int .i64 0] rfl ?_)
    refine aB 1 rfl<|aD Z<|aZ<|dA ?_
    have e:lkE N l bs (bJ R) q=111:=by unfold lkE;rw [if_neg (by simpa using c17),if_pos aA]
    exact gT (vs:=[fI (none,[],0),.int .i64 0]) [] Tryz.results117 rfl Tryz.isAgg171 Tryz.sizeOf171 rfl ⟨(rdA rfl),(rdA rfl),trivial⟩ rfl aC ⟨(none,[],0),0,by rw [e],rfl,fun h=>absurd (e.symm.trans h) (by decide)⟩
   ·have hz:(nsE N l bs (bJ R)).2=0:=by simpa using c17
    obtain ⟨n,rfl,Y⟩:=nsE_zero hz
    have ac:=Y.len
    have ab:lkE (n:Int) l bs (bJ R) q=0:=by unfold lkE;rw [if_neg (by rw [hz];simp),if_neg aA]
    obtain ⟨F,ae⟩:∃ F:Nat,q=(F:Int)+1:=⟨(q - 1).toNat,aA⟩
    have O:F<R.length:=aA
    refine bZ kh6<|aG fun kh10=>f_Q (aQ (vs:=[_,_]) Tryz.isAgg34 Tryz.sizeOf34 rfl rfl ⟨(rdA rfl),(rdA rfl),trivial⟩)<|aB 1 rfl ?_
    refine f_S (aW Tryz.call152 rfl (fun w_ J=>(by have h:=at_spec X bs cb U R cc F w_ (hn.up0 J) O;rw [show ((F:Int)+1)=q by omega] at h;exact h)) ?_);rintro _ _ ⟨rfl,rfl⟩;dsimp only [aK,aJ];refine f_Z (bS Tryz.sizeOf171 rfl rfl rfl rfl cG [fI R[F],.int .i64 q] rfl ?_);refine aB 1 rfl<|aD kh10<|aZ ?_
    exact gT (vs:=[fI R[F],.int .i64 q]) [] Tryz.results117 rfl Tryz.isAgg171 Tryz.sizeOf171 rfl ⟨(rdA rfl),(rdA rfl),trivial⟩ rfl aC ⟨R[F],q,by rw [ab],rfl,fun _=>⟨rfl,by rw [show (q - 1).toNat=F by omega,List.getElem?_eq_getElem O]⟩⟩
end Go.Proofs.YthpkelafioikaaaGreat
namespace Go.Proofs.YthpkelafioikaaaGreat.Fly
open Go Go.RowKit
set_option linter.unusedVariables false
set_option linter.unusedSectionVars false
section
variable {P:Program} {n:Nat} {S:Nat→Prop} {w0:World} {env:Env} {segs:List Seg} {d:Option Tmp} {ty:TypeId} {pos:String} {af:Array Edge} {g:Option (Nat×Bool)}
end
end Go.Proofs.YthpkelafioikaaaGreat.Fly
namespace Go.Proofs.YthpkelafioikaaaGreat
open Go Go.RowKit Fly
set_option maxRecDepth 100000
set_option maxHeartbeats 4000000
set_option linter.all false
theorem ints_zero {d:List Int} {i:Nat} (hi:i≤d.length) (sp:List Value):jM (a8 d++sp) i (List.replicate (d.length - i) [Value.int .i64 0]).flatten=a8 (d.take i)++(a8 (List.replicate (d.length - i) 0)++sp):=by
 have e:a8 d++sp=a8 (d.take i)++(a8 (d.drop i)++sp):=by rw [← List.append_assoc,← eL,List.take_append_drop]
 have e2:(List.replicate (d.length - i) [Value.int .i64 0]).flatten=a8 (List.replicate (d.length - i) 0):=by
  generalize d.length - i=q
  induction q with
  |zero=>rfl
  |succ q ih=>simp only [List.replicate_succ,List.flatten_cons,ih];rfl
 rw [e,e2];exact kV _ _ _ _ _ (by rw [a7,List.length_take,Nat.min_eq_left hi]) (by rw [a7,a7];simp)
theorem intsG {l:List Int} {i:Nat} (h:i<l.length) {x:Int} (e:l[i]=x):(a8 l)[i]? =some (.int .i64 x):=by rw [d9 h,e]
theorem cpt_put {l d : List Int} {i j : Nat} (hj : j < l.length) (F : i < j) (hd : d.length = l.length) (U : d.take i = cpt (l.take j)) (O : d.drop (j - 1) = l.drop (j - 1)) (J : l[j] ≠ l[j - 1]'aA) :
  (d.set i l[j]).take (i+1)=cpt (l.take (j+1))∧(d.set i l[j]).drop j=l.drop j:=by
 refine ⟨?_,?_⟩
 ·rw [mG aA hj,if_neg (fun e=>J e.symm),← U,List.take_succ_eq_append_getElem (show i<(d.set i l[j]).length by simp;omega),List.getElem_set_self,List.take_set_of_le (Nat.le_refl _)]
 ·rw [List.drop_set_of_lt F]
  have:=congrArg (List.drop 1) O
  rw [List.drop_drop,List.drop_drop,show j - 1+1=j by omega] at this;exact this
theorem cpt_pass {l d : List Int} {i j : Nat} (hj : j < l.length) (J : 0 < j) (O : d.take i = cpt (l.take j)) (F : d.drop (j - 1) = l.drop (j - 1)) (he : l[j] = l[j - 1]'aA) : d.take i = cpt (l.take (j + 1)) ∧ d.drop j = l.drop j := by
 refine ⟨by rw [mG J hj,if_pos he.symm];exact O,?_⟩;have:=congrArg (List.drop 1) F
 rw [List.drop_drop,List.drop_drop,show j - 1+1=j by omega] at this;exact this
theorem drop_get {l d : List Int} {i j : Nat} (hd : d.length = l.length) (h : d.drop i = l.drop i) (F : i ≤ j) (hj : j < l.length) : d[j]'aA = l[j] := by
 have:=congrArg (fun x=>x[j - i]?) h
 simp only [List.getElem?_drop,show i+(j - i)=j by omega] at this;rw [List.getElem?_eq_getElem aA,List.getElem?_eq_getElem hj] at this;exact Option.some.inj this
theorem nB (A:Option Addr) (cap:Nat) (l:List Int) (m:Seg) (w:World) (ho:Own 3 1 (.slice A l.length cap) l.length (a8 l) m) (hl:l.length≤1000000000) (hw:Owns w [m]):
    Meets Tryz.prog 24 [.slice A l.length cap] w [m] (fun u own' =>∃ m',own' =[m']∧Own 3 1 u (cpt l).length (a8 (cpt l)) m'):=by
 refine bG Tryz.func24 rfl Tryz.ntmps24 rfl hw<|aG fun kh1=>aB 1 rfl<|aD kh1<|aV fun kh2=>aG fun kh3=>aB 1 rfl<|dY bU rfl<|aB 1 rfl<|aD kh3<|aX rfl (fun c8=>?_) (fun c8=>?_)
 ·
  have Y:cpt l=l:=by
    match l,c8 with
    |[],_=>rfl
    |[x],_=>rfl
    |x::y::r,h=>simp at h;omega
  refine aG fun ah=>aB 2 rfl<|aD ah<|aZ<|dA ?_
  exact bO [m] Tryz.results24 rfl (aL aP) ⟨m,rfl,by rw [Y];exact ho⟩
 ·
  obtain ⟨b,sp,rfl,rfl,ao⟩:=ho.upd aA
  obtain ⟨_,_,e_,am⟩:=ho.val
  cases e_
  have ae:sp.length=cap - l.length:=by
    obtain ⟨_,h|⟨b',c',aj,e,hm,_,_,h3⟩⟩:=ho
    · omega
    · cases e
      have:=List.append_cancel_left (Array.toList_inj.2 (show (a8 l++sp).toArray=(a8 l++aj).toArray by simpa using hm))
      rw [this];omega
  refine bZ kh2<|aV fun kh5=>aG fun ai=>aB 1 rfl<|aD ai<|aS ?_
  refine m4 (α:=Nat) [0] (fun k=>[(3,.int .i64 (k:Int))]) (fun k=>1≤k∧k≤l.length∧cpt (l.take k)=l.take k) (fun k=>l.length - k) (1) ?_ ?_ ?_
  · exact aF
  · exact ⟨Nat.le_refl _,aA,cpt_one aA⟩
  ·
   rintro k ⟨aq,ar,X⟩;refine aV fun ak=>aG fun kh8=>aB 2 rfl<|dY bU rfl<|aB 1 rfl<|aD kh8<|aX rfl (fun c13=>?_) (fun c13=>?_)
   ·
    refine bZ ak<|aV fun kh9=>aS<|aV fun kh10=>h9 rfl aU<|dN 2 rfl ?_
    have hk:k<l.length:=aA
    refine dG (aM bU rfl rfl (k))<|dG (aH Tryz.isAgg3 rfl (rdA (d7 (d9 hk))))<|dN 2 rfl<|dG (jK rfl rfl)<|dG (aM bU rfl rfl (k - 1))<|dG (aH Tryz.isAgg3 rfl (rdA (d7 (d9 aA))))<|dN 1 rfl<|eK<|bP kh10<|aX rfl (fun c25=>?_) (fun c25=>?_)
    ·
     refine aG fun kh11=>aB 2 rfl<|f_Q (f7 bU rfl rfl rfl rfl (fun h=>by cases h) k _ _ (.inr ⟨_,_,rfl,aA⟩) (.inl ⟨rfl,rfl⟩) (.inl ⟨rfl,rfl⟩) ⟨aA,aA,aA⟩ (.slice (some ⟨b,k,none⟩) (l.length - k) (cap - k)) (by rw [if_neg aA];simp [dH])) ?_
     refine aB 1 rfl<|aD kh11<|aV fun kh12=>aG fun ab=>aB 1 rfl<|aD ab<|aS ?_
     refine dF (α:=Nat×Nat×List Int) [0,4] (fun ⟨q,i,d⟩=>[(5,.int .i64 (q:Int)),(3,.int .i64 (i:Int))]) (fun ⟨q,i,d⟩=>[[(b,blk (a8 d++sp) 3)]]) (fun ⟨q,i,d⟩=>1≤q∧k+q≤l.length∧i<k+q∧d.length=l.length∧d.take i=cpt (l.take (k+q))∧d.drop (k+q - 1)=l.drop (k+q - 1)) (fun ⟨q,i,d⟩=>l.length - (k+q)) (1,k,l) ?_ ?_ ?_ ?_
     · exact aF
     · exact aC
     · exact ⟨Nat.le_refl _,aA,aA,rfl,by rw [mG aA hk,if_pos c25.symm,X],rfl⟩
     ·
      rintro ⟨q,i,d⟩ ⟨an,ap,ad,F,J,O⟩;refine fJ (e:=[(5,_),(3,_),(0,_),(4,_)]) aF ?_;refine aV fun ac=>aG fun kh15=>aB 2 rfl<|dY bU rfl<|aB 1 rfl<|aD kh15<|aX rfl (fun c32=>?_) (fun c32=>?_)
      ·
       refine bZ ac<|aV fun kh16=>aS<|aV fun kh17=>?_
       have U:k+q<l.length:=aA
       have Z:=drop_get F O (j:=k+q) aA U
       have ag:=drop_get F O (j:=k+q - 1) (Nat.le_refl _) aA
       refine h9 rfl aU<|dN 2 rfl<|dG (aM bU rfl rfl (k+q))<|dG (aH Tryz.isAgg3 rfl (rdA (d7 (intsG aA Z))))<|dN 2 rfl<|dG (jK rfl rfl)<|dG (aM bU rfl rfl (k+q - 1))<|dG (aH Tryz.isAgg3 rfl (rdA (d7 (intsG aA ag))))<|dN 1 rfl<|eK ?_
       refine bP kh17<|aX rfl (fun c44=>?_) (fun c44=>?_)
       ·
        refine aG fun aa=>aB 4 rfl<|f_Q (aM bU rfl rfl (k+q))<|f_Q (aH Tryz.isAgg3 rfl (rdA (d7 (intsG aA Z))))<|f_Q (aM bU rfl rfl (i))<|f_Z (bQ Tryz.sizeOf3 rfl rfl rfl rfl (by rw [List.length_append,a7];omega) (a8 (d.set i l[k+q])++sp) (by rw [List.set_append_left _ _ (by rw [a7];omega)];simp [a8,List.map_set]) ?_)
        refine aD aa<|aI<|aB 1 rfl<|f_Q (bF rfl rfl)<|aB 1 rfl<|aY<|dI<|bP kh16<|aI<|aB 1 rfl ?_
        refine f_Q (bF rfl rfl)<|aB 1 rfl<|aY ?_
        refine cV (a6 (q+1,i+1,d.set i l[k+q]) (by first|omega|(dsimp only;omega)|(simp;omega)) ⟨aA,aA,aA,by simpa using F,(cpt_put U ad F J O aA).1,(cpt_put U ad F J O aA).2⟩ ?_ ?_ ?_)
        · exact aF
        · exact aF
        · exact aC
       ·
        refine dZ<|dI<|bP kh16<|aI<|aB 1 rfl<|f_Q (bF rfl rfl)<|aB 1 rfl<|aY ?_
        refine cV (a6 (q+1,i,d) (by first|omega|(dsimp only;omega)|(simp;omega)) ⟨aA,aA,aA,F,(cpt_pass U aA J O aA).1,(cpt_pass U aA J O aA).2⟩ ?_ ?_ ?_)
        · exact aF
        · exact aF
        · exact aC
      ·
       refine cS<|cU<|cU<|eH<|bP kh12<|aV fun kh19=>?_
       obtain rfl:q=l.length - k:=aA
       rw [show k+(l.length - k)=l.length by omega,List.take_length] at J;have al:(cpt l).length=i:=by rw [← J];simp;omega
       refine aI<|aB 2 rfl<|f_Q (f7 bU rfl rfl rfl rfl (fun h=>by cases h) i _ _ (.inr ⟨_,_,rfl,aA⟩) (.inl ⟨rfl,rfl⟩) (.inl ⟨rfl,rfl⟩) ⟨aA,aA,aA⟩ (.slice (some ⟨b,i,none⟩) (l.length - i) (cap - i)) (by rw [if_neg aA];simp [dH])) ?_
       refine f_Z (o_clear eO rfl rfl (by rw [List.length_append,a7];omega) (a8 (d.take i)++(a8 (List.replicate (d.length - i) 0)++sp)) (by rw [← F];exact ints_zero aA sp) ?_);refine aD kh19<|aG fun kh20=>aB 2 rfl<|f_Q (f7 bU rfl rfl rfl rfl (fun h=>by cases h) 0 i cap (.inl ⟨rfl,rfl⟩) (.inr ⟨_,_,rfl,aA⟩) (.inl ⟨rfl,rfl⟩) ⟨aA,aA,aA⟩ (.slice (some ⟨b,0,none⟩) i cap) (by rw [if_neg aA];simp [dH])) ?_
       refine aB 1 rfl<|aD kh20<|aZ<|fA<|dA<|dA<|fA<|dA ?_
       exact bO [[(b,blk (a8 (d.take i)++(a8 (List.replicate (d.length - i) 0)++sp)) 3)]] Tryz.results24 rfl (by repeat (first|exact aP|refine aL ?_)) ⟨_,rfl,by rw [al,← J];exact ⟨by rw [a7];simp;omega,.inr ⟨b,cap,_,rfl,rfl,aA,aA,by rw [List.length_append,a7,List.length_replicate,ae];omega⟩⟩⟩
    ·
     refine dZ<|dI<|bP kh9<|aI<|aB 1 rfl<|f_Q (bF rfl rfl)<|aB 1 rfl<|aY ?_
     refine cV (a6 (k+1) (by first|omega|(dsimp only;omega)|(simp;omega)) ⟨aA,aA,by rw [mG aA hk,if_neg (fun e=>c25 e.symm),X,← List.take_succ_eq_append_getElem hk]⟩ ?_ ?_ ?_)
     · exact aF
     · exact aF
     · exact aC
   ·
    refine cS<|cU<|cU<|eH<|bP kh5<|aG fun kh21=>aB 2 rfl<|aD kh21<|aZ ?_
    have Y:cpt l=l:=by rw [List.take_of_length_le aA] at X;exact X
    exact bO [[(b,blk (a8 l++sp) 3)]] Tryz.results24 rfl (by repeat (first|exact aP|refine aL ?_)) ⟨_,rfl,by rw [Y];exact ho⟩
theorem Clip_spec (A:Option Addr) (len cap:Nat) (w:World) (h:len≤cap) (hm:cap≤9223372036854775807) (hA:A=none→len=0):
    Meets Tryz.prog 159 [.slice A len cap] w [] (fun u m=>u= .slice A len len∧m=[]):=by
 refine bG Tryz.func159 rfl Tryz.ntmps159 rfl Owns.nil<|aG fun kh1=>aB 1 rfl<|aD kh1<|aG fun kh2=>aB 2 rfl<|dY bU rfl<|aB 1 rfl<|dY bU rfl<|f_Q (f7 bU rfl rfl rfl rfl (fun _=>rfl) 0 len len (.inl ⟨rfl,rfl⟩) (.inr ⟨_,_,rfl,aA⟩) (.inr ⟨_,_,rfl,aA⟩) ⟨aA,aA,aA⟩ (.slice A len len) (by rw [Nat.sub_zero];congr 1;split;rfl;cases A with|none=>rfl|some x=>obtain ⟨p,q,r⟩:=x;cases r<;>simp [Addr.add])) ?_
 refine aB 1 rfl<|aD kh2<|aZ ?_
 exact bO [] Tryz.results159 rfl aP ⟨rfl,rfl⟩
end Go.Proofs.YthpkelafioikaaaGreat
