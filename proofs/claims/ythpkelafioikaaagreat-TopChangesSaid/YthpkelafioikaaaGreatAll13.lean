import Derived.Test.YthpkelafioikaaaGreatFlyRun
import Derived.Test.YthpkelafioikaaaGreatAll12
import Derived.Test.YthpkelafioikaaaGreatAll1
import Derived.Test.YthpkelafioikaaaGreatAll11
import Derived.Test.YthpkelafioikaaaGreatAll2
import Derived.Test.YthpkelafioikaaaGreatFlyT
import Derived.Test.YthpkelafioikaaaGreatAll9
import Derived.OrdersIn
import Derived.Test.YthpkelafioikaaaGreatAll10
import Derived.Test.YthpkelafioikaaaGreatAll3
import Derived.Test.YthpkelafioikaaaGreatFlyR
import Derived.Test.YthpkelafioikaaaGreatAll4
namespace Go.Proofs.YthpkelafioikaaaGreat
open Go Go.RowKit Fly
set_option maxRecDepth 100000
set_option maxHeartbeats 4000000
set_option linter.all false
theorem ready_ok {N:Int} {l:List Arc} {L:List Int} {bd:Int} (h:h8 N l L bd=0):(fN N l L).2=0∧e9 (dZ L)≤bd:=by
 unfold h8 at h
 by_cases h1:(fN N l L).2≠0
 ·rw [if_pos h1] at h;exact absurd h h1
 ·rw [if_neg h1] at h
  by_cases h2:bd<1∨1024<bd
  ·rw [if_pos h2] at h;simp at h
  ·rw [if_neg h2] at h
   by_cases h3:bd<e9 (dZ L)
   ·rw [if_pos h3] at h;simp at h
   ·exact ⟨aA,aA⟩
theorem sizes_cnt {L:List Int} {i:Nat} (h:i<(dZ L).length):(dZ L)[i]=(cnt L i:Int):=by
 have h' :i<(e9 L+1).toNat:=by unfold dZ at h;rwa [gO] at h
 exact kP h'
structure LInv (n:Nat) (l:List Arc) (bd:Int) (s:LSt):Prop where
 len:s.1.length=n
 right:eH (n:Int) s.1=true
 size:s.2=dZ s.1
 bound:∀ x∈s.2,x≤bd
theorem LInv.step {n:Nat} {l:List Arc} {bd:Int} {s:LSt} (hg:(cG (n:Int) l).2=0) (h:LInv n l bd s) (ho:0<(mvOf n (fun v=>dS (v:Int) l) bd s).2.2):
  LInv n l bd (mvDo s.1 (mvOf n (fun v=>dS (v:Int) l) bd s).1.toNat (mvOf n (fun v=>dS (v:Int) l) bd s).2.1)∧(q7 n l (mvDo s.1 (mvOf n (fun v=>dS (v:Int) l) bd s).1.toNat (mvOf n (fun v=>dS (v:Int) l) bd s).2.1).1:Int)=q7 n l s.1 - (mvOf n (fun v=>dS (v:Int) l) bd s).2.2:=by
 obtain ⟨L,S⟩:=s
 obtain ⟨hL,U,hS,hB⟩:=h
 simp only at hL U hS hB;subst hS;have aa:=(lok_begin hg U).n1
 obtain ⟨_,X,ag,ad⟩:=qA U aa.1
 obtain ⟨y,j,ac,ae,J,Z⟩:=(to_is (n:=n) (L:=L) (S:=dZ L) (rows:=fun v=>dS (v:Int) l) (bd:=bd) n (Nat.le_refl _)).resolve_left (fun h=>by unfold mvOf at ho;rw [h] at ho;simp at ho)
 have e:mvOf n (fun v=>dS (v:Int) l) bd (L,dZ L)=((y:Int),(j:Int),gn L (dS (y:Int) l) (lab L (y:Int)) (j:Int)):=ac
 rw [e] at ho ⊢;simp only [Int.toNat_natCast];have F:(L.set y (j:Int)).length=n:=by rw [List.length_set];exact hL
 have O:GoodC n l:=raw_good (bS hg).2.2.2
 have Y:=cut_set O (L:=L) (v:=y) aA (j:Int)
 have ab:q7 n l (tdy (L.set y (j:Int)))=q7 n l (L.set y (j:Int)):=cut_tdy F
 refine ⟨⟨by unfold mvDo;rw [gI];exact F,right_tdy F,sizes_tdy aA,?_⟩,?_⟩
 ·refine size_move (M:=(dZ L).length) aA J (fun x hx=>⟨(X x hx).1,(X x hx).2.1⟩) (fun i hi=>?_) ?_
  ·rw [← sizes_cnt hi];exact hB _ (List.getElem_mem hi)
  ·rw [← sizes_cnt J];have:=Z.2;rw [List.getD_eq_getElem?_getD,List.getElem?_eq_getElem J] at this;exact this
 ·show (q7 n l (tdy (L.set y (j:Int))):Int)=_
  rw [ab];exact Y
theorem LInv.go {n:Nat} {l:List Arc} {bd:Int} (hg:(cG (n:Int) l).2=0):∀ (k:Nat) (s:LSt),LInv n l bd s→LInv n l bd (jH n (fun v=>dS (v:Int) l) bd k s).1∧q7 n l (jH n (fun v=>dS (v:Int) l) bd k s).1.1+(jH n (fun v=>dS (v:Int) l) bd k s).2≤q7 n l s.1
 |0,s,h=>⟨h,by simp [jH]⟩
 |k+1,s,h=>by
  rw [jH]
  by_cases hc:0<(mvOf n (fun v=>dS (v:Int) l) bd s).2.2
  ·rw [if_pos hc]
   obtain ⟨h1,h2⟩:=h.step hg hc
   obtain ⟨h3,F⟩:=LInv.go hg k _ h1
   refine ⟨h3,?_⟩;simp only;omega
  ·rw [if_neg hc];exact ⟨h,aN⟩
def badB (bs:List Int):Bool:=(List.range bs.length).any fun k=>decide (bs.getD k 0≤mZ bs k∨1024<bs.getD k 0)
def plE (N:Int) (l:List Arc) (bs cs:List Int) (mv:Int):Int:=
 if (cG N l).2≠0 then (cG N l).2 else if bs.length<1∨5<bs.length then 111 else if badB bs=true then 1 else if 16384<cs.length then 2 else if cs.any (offV N)=true then 5 else if mv<0∨16384<mv then 1 else 0
structure PlOk (n:Nat) (l:List Arc) (bs cs:List Int) (mv:Int):Prop where
 g:(cG (n:Int) l).2=0
 many:1≤bs.length∧bs.length≤5
 bnd:∀ k,k<bs.length→mZ bs k<bs.getD k 0∧bs.getD k 0≤1024
 few:cs.length≤16384
 rng:∀ v∈cs,0≤v∧v<(n:Int)
 moves:0≤mv∧mv≤16384
theorem badB_no {bs:List Int}:badB bs=false↔∀ k,k<bs.length→mZ bs k<bs.getD k 0∧bs.getD k 0≤1024:=by
 unfold badB
 rw [List.any_eq_false];constructor
 ·intro h k hk
  have:=h k (by simpa using hk)
  simp only [decide_eq_true_eq] at this;omega
 ·intro h k hk
  have:=h k (by simpa using hk)
  simp only [decide_eq_true_eq];omega
theorem plE_zero {N:Int} {l:List Arc} {bs cs:List Int} {mv:Int} (h:plE N l bs cs mv=0):∃ n:Nat,N=(n:Int)∧PlOk n l bs cs mv:=by
 unfold plE at h
 by_cases hg:(cG N l).2=0
 ·rw [if_neg (by rw [hg];simp)] at h
  by_cases h1:bs.length<1∨5<bs.length
  ·rw [if_pos h1] at h;cases h
  ·rw [if_neg h1] at h
   by_cases h2:badB bs=true
   ·rw [if_pos h2] at h;cases h
   ·rw [if_neg h2] at h
    by_cases h3:16384<cs.length
    ·rw [if_pos h3] at h;cases h
    ·rw [if_neg h3] at h
     by_cases F:cs.any (offV N)=true
     ·rw [if_pos F] at h;cases h
     ·rw [if_neg F] at h
      by_cases J:mv<0∨16384<mv
      ·rw [if_pos J] at h;cases h
      ·have hz:=bS hg
       obtain ⟨n,rfl⟩:∃ n:Nat,N=(n:Int):=⟨N.toNat,aA⟩
       refine ⟨n,rfl,hg,aA,badB_no.1 (by simpa using h2),aA,fun v hv=>?_,aA⟩;have:=List.any_eq_false.1 (by simpa using F) v hv
       unfold offV at this
       simp at this;omega
 ·rw [if_pos hg] at h;exact absurd h hg
theorem PlOk.first {n:Nat} {l:List Arc} {bs cs:List Int} {mv:Int} (h:PlOk n l bs cs mv):1≤bs.getD 0 0∧bs.getD 0 0≤1024:=by
 have:=h.bnd 0 (by have:=h.many;omega)
 have e:mZ bs 0=0:=rfl
 omega
def LowN (n:Nat) (l:List Arc) (b:Int) (cs:List Int) (mv:Int) (L:List Int):Prop:=
 ∃ (M:List Pr) (p:List Nat) (J:List Int),M.Pairwise ltX∧OutI n l b cs M∧IsParts n (ends2 (nN M l)) p∧JInv n l b (cutL l (natN p) b.toNat) J∧smL (prs n l) J b=[]∧JTo n l b (cutL l (natN p) b.toNat) J∧L=(impR (n:Int) l J b mv).1
theorem ready_size {n:Nat} {l:List Arc} {L:List Int} {b:Int} (hg:(cG (n:Int) l).2=0) (F:eH (n:Int) L=true) (hb:1≤b∧b≤1024) (hs:∀ y,(gK L y:Int)≤b):h8 (n:Int) l L b=0:=by
 have hn:=bS hg
 have J:=e5 F aA
 have hl:=(d6 F).2
 have O:=J _ (List.getElem_mem (show 0<L.length by omega))
 unfold h8
 rw [if_neg (by rw [lc_zeroN hg F];simp),if_neg aA,if_neg];have:=max_cntN (L:=L) (by unfold dZ;rw [gO];omega) hs
 omega
theorem imp_right {n:Nat} {l:List Arc} {L:List Int} {b mv:Int} (hg:(cG (n:Int) l).2=0) (F:eH (n:Int) L=true) (hb:1≤b∧b≤1024) (hs:∀ y,(gK L y:Int)≤b) (hm:0≤mv∧mv≤16384):
  (impR (n:Int) l L b mv).2.2=0∧eH (n:Int) (impR (n:Int) l L b mv).1=true∧∀ y,(gK (impR (n:Int) l L b mv).1 y:Int)≤b:=by
 have O:=ready_size hg F hb hs
 have hn:=bS hg
 have X:LInv n l b (L,dZ L):=by
  obtain ⟨Y,hm2⟩:=ready_ok O
  exact ⟨(qA F aA).1,F,rfl,fun x hx=>Int.le_trans (iI hx) hm2⟩
 obtain ⟨hA,_⟩:=LInv.go hg mv.toNat _ X
 have e:impR (n:Int) l L b mv=((jH n (fun v=>dS (v:Int) l) b mv.toNat (L,dZ L)).1.1,((jH n (fun v=>dS (v:Int) l) b mv.toNat (L,dZ L)).2:Int),0):=by
  unfold impR;rw [if_neg (by rw [O];simp),if_neg aA,Int.toNat_natCast]
 rw [e];refine ⟨rfl,hA.right,fun y=>?_⟩;simp only
 generalize (jH n (fun v=>dS (v:Int) l) b mv.toNat (L,dZ L)).1=s at hA
 by_cases hy:y∈s.1
 ·have U:=e5 hA.right aA y hy
  obtain ⟨j,rfl⟩:∃ j:Nat,y=(j:Int):=⟨y.toNat,aA⟩
  have J:(cnt s.1 j:Int)∈s.2:=by
   rw [hA.size];unfold dZ szs
   exact List.mem_map.2 ⟨j,by rw [List.mem_range];omega,rfl⟩
  have:=hA.bound _ J
  rw [cnt_is] at this;exact this
 ·rw [kO hy];omega
theorem natN_right {n:Nat} {p:List Nat} (h:Tidy p) (hl:p.length=n):eH (n:Int) (natN p)=true:=by
 have key:∀ (Q P:List Nat),(∀ k (h:k<Q.length),Q[k]≤nxt (P++Q) (P.length+k))→rgo ((nxt P P.length:Nat):Int) (natN Q)=true:=by
  intro Q
  induction Q with
  |nil=>intro P _;rfl
  |cons y Q ih=>
   intro P h;have O:nxt (P++y::Q) P.length=nxt P P.length:=nK _ _ _ fun j hj=>List.getElem?_append_left hj
   have J:=h 0 aN
   simp only [List.getElem_cons_zero,Nat.add_zero] at J;rw [O] at J
   have hn:nxt (P++[y]) (P++[y]).length=if y=nxt P P.length then nxt P P.length+1 else nxt P P.length:=by
    rw [List.length_append,List.length_singleton];have e1:nxt (P++[y]) P.length=nxt P P.length:=nK _ _ _ fun j hj=>List.getElem?_append_left hj
    show (if (P++[y])[P.length]? =some (nxt (P++[y]) P.length) then nxt (P++[y]) P.length+1 else nxt (P++[y]) P.length)=_
    rw [e1,List.getElem?_append_right (Nat.le_refl _),Nat.sub_self]
    by_cases hy:y=nxt P P.length
    ·rw [if_pos hy];rw [if_pos (by simp [← hy])]
    ·rw [if_neg hy,if_neg (by simpa using hy)]
   have F:=ih (P++[y]) fun k hk=>by
    have:=h (k+1) (by simpa using hk)
    simp only [List.getElem_cons_succ] at this;rw [List.length_append,List.length_singleton,List.append_assoc];rw [show P.length+(k+1)=P.length+1+k by omega] at this;exact this
   rw [hn] at F
   show rgo _ ((y:Int)::natN Q)=true
   unfold rgo
   rw [if_neg aA]
   by_cases hy:y=nxt P P.length
   ·rw [if_pos hy] at F;rw [if_pos aA];exact F
   ·rw [if_neg hy] at F;rw [if_neg aA];exact F
 have:=key p [] (fun k hk=>by have:=h k hk;simpa using this)
 unfold eH
 rw [show rgo 0 (natN p)=true from this,natN_len,hl];simp
theorem LowN.right {n:Nat} {l:List Arc} {b:Int} {cs:List Int} {mv:Int} {L:List Int} (hg:(cG (n:Int) l).2=0) (hb:1≤b∧b≤1024) (hm:0≤mv∧mv≤16384) (h:LowN n l b cs mv L):eH (n:Int) L=true∧∀ y,(gK L y:Int)≤b:=by
 obtain ⟨M,p,J,_,_,hp,F,_,_,rfl⟩:=h
 exact (imp_right hg F.right hb F.size hm).2
theorem joinE_zeroM {n:Nat} {l:List Arc} {L:List Int} {bd:Int} (hg:(cG (n:Int) l).2=0) (F:eH (n:Int) L=true) (hb:1≤bd∧bd≤1024) (hs:∀ y,(gK L y:Int)≤bd):joinE (n:Int) l L bd=0:=by
 have hn:=bS hg
 have J:=e5 F aA
 have hl:=(d6 F).2
 have O:0<L.length:=aA
 have hx:=J L[0] (List.getElem_mem O)
 unfold joinE
 rw [if_neg (by rw [spE_oneN hg F hb];simp),if_neg (by have:=max_cnt (L:=L) (by unfold dZ;rw [gO];omega) hs;omega)]
structure MkTo (n:Nat) (l:List Arc) (bs cs:List Int) (mv:Int) (L:List (List Int)):Prop where
 low:LowN n l (bs.getD 0 0) cs mv (L.getD 0 [])
 up:∀ k,k+1<L.length→JInv n l (bs.getD (k+1) 0) (L.getD k []) (L.getD (k+1) [])∧smL (prs n l) (L.getD (k+1) []) (bs.getD (k+1) 0)=[]∧JTo n l (bs.getD (k+1) 0) (L.getD k []) (L.getD (k+1) [])
theorem MkTo.right {n:Nat} {l:List Arc} {bs cs:List Int} {mv:Int} {L:List (List Int)} (F:PlOk n l bs cs mv) (h:MkTo n l bs cs mv L) {k:Nat} (hk:k<L.length):eH (n:Int) (L.getD k [])=true∧∀ y,(gK (L.getD k []) y:Int)≤bs.getD k 0:=by
 cases k with
 |zero=>exact h.low.right F.g F.first F.moves
 |succ k=>have:=(h.up k hk).1;exact ⟨this.right,this.size⟩
theorem qS {L:List (List Int)} {x:List Int} {k:Nat} (h:k<L.length):(L++[x]).getD k []=L.getD k []:=by
 simp [List.getD_eq_getElem?_getD,List.getElem?_append_left h]
theorem getD_lastL {L:List (List Int)} {x:List Int}:(L++[x]).getD L.length []=x:=by simp [List.getD_eq_getElem?_getD]
theorem MkTo.snoc {n:Nat} {l:List Arc} {bs cs:List Int} {mv:Int} {L:List (List Int)} {x:List Int} (h:MkTo n l bs cs mv L) (F:0<L.length)
  (hx:JInv n l (bs.getD L.length 0) (L.getD (L.length - 1) []) x∧smL (prs n l) x (bs.getD L.length 0)=[]∧JTo n l (bs.getD L.length 0) (L.getD (L.length - 1) []) x):MkTo n l bs cs mv (L++[x]) where
 low:=by rw [qS F];exact h.low
 up:=fun k hk=>by
  rw [List.length_append,List.length_singleton] at hk
  by_cases e:k+1=L.length
  ·rw [qS (show k<L.length by omega),e,getD_lastL,show k=L.length - 1 by omega];exact hx
  ·rw [qS (show k<L.length by omega),qS (show k+1<L.length by omega)];exact h.up k aA
theorem lab_getD {L:List Int} {u:Nat}:lab L (u:Int)=L.getD u 0:=by unfold lab;rw [Int.toNat_natCast]
theorem made_ok {n:Nat} {l:List Arc} {bs cs:List Int} {mv:Int} {L:List (List Int)} (F:PlOk n l bs cs mv) (h:MkTo n l bs cs mv L) (hl:L.length=bs.length):NestOk n l bs L where
 g:=F.g
 many:=F.many
 len:=hl
 lv:=fun k hk=>by
  rw [l4 F.g];have hr:=h.right F (k:=k) aA
  refine ⟨F.bnd k hk,hr.1,hr.2,fun U=>?_⟩;obtain ⟨j,rfl⟩:∃ j,k=j+1:=⟨k - 1,aA⟩
  have hj:=(h.up j aA).1
  have J:=h.right F (k:=j) aA
  have hlen:=(d6 J.1).2
  rw [Nat.add_sub_cancel];intro u O v hv e;have:=hj.coarse u v aA aA (by rw [lab_getD,lab_getD];exact e)
  rwa [lab_getD,lab_getD] at this
abbrev ckSegs (bs bn bo len cap bd:Nat):List Seg:=[[(bs,blk [.slice (some ⟨bo,0,none⟩) len cap] 25)],[(bn,blk [.int .i64 (bd:Int)] 3)]]
abbrev ckEnc (bo len bd:Nat) (y:Nat):Value:= .slice (some ⟨bo,y,none⟩) (min bd (len - y)) (min bd (len - y))
def ckMay (len bd:Nat) (ys:List Nat) (y:Nat):Prop:=y=ys.length*bd∧ys.length*bd<len
def ckFin (bs bn bo len cap bd:Nat) (ys:List Nat) (o:List Seg):Prop:=len≤ys.length*bd∧o=ckSegs bs bn bo len cap bd
def ckStp (bs bn bo len cap bd:Nat) (ys:List Nat) (o:List Seg):Prop:=o=ckSegs bs bn bo len cap bd
theorem Chunk_spec (bo len cap bd:Nat) (w:World) (h:0<bd):
    Meets Tryz.prog 138 [.slice (some ⟨bo,0,none⟩) len cap,.int .i64 (bd:Int)] w [] (fun u own' =>∃ bs bn,u= .func (.func 170) #[] #[.pointer (some ⟨bs,0,none⟩),.pointer (some ⟨bn,0,none⟩)]∧own' =ckSegs bs bn bo len cap bd):=by
 refine bE Tryz.func138 rfl Tryz.ntmps138 rfl Owns.nil<|aG fun kh1=>f_S (cT rfl rfl fun J=>?_)
 refine f_S (cT rfl rfl fun F=>?_);refine aB 1 rfl<|aD kh1<|aS fun kh2=>aG fun kh3=>cX Tryz.isAgg3 rfl (rdA rfl)<|aB 1 rfl<|aD kh3<|dX rfl aA<|bV kh2<|aG fun kh4=>?_
 refine f_Q (kT rfl rfl)<|aB 1 rfl<|aD kh4<|aY ?_
 exact bJ (ckSegs J F bo len cap bd) Tryz.results138 rfl aC ⟨J,F,rfl,rfl⟩
theorem Chunk1_iter (bs bn bo len cap bd:Nat) (m0:Seg) (w:World) (h:0<bd∧bd≤1000000) (hl:len≤1000000) (hc:len≤cap∧cap≤9223372036854775807):
    IterAt Tryz.prog 170 [.pointer (some ⟨bs,0,none⟩),.pointer (some ⟨bn,0,none⟩)] (ckSegs bs bn bo len cap bd) (ckEnc bo len bd) (ckMay len bd) (ckFin bs bn bo len cap bd) (ckStp bs bn bo len cap bd) m0 w:=by
 intro l_ J Jx ac Y hY;refine r_enter Tryz.func170 rfl Tryz.ntmps170 rfl Y ?_;refine dW fun K1 Z=>?_;refine cA ?_;refine aQ rfl rfl rfl rfl (bI rfl) ?_;refine dM ?_;refine d9 (Z _ _ _ ?_);refine gD ?_;refine r_loop (α:=Nat×List Nat×Seg) (fun ⟨p,ys,F⟩=>[]) [0,1,2] (fun ⟨p,ys,F⟩=>[(4,.int .i64 (p:Int))]) (fun ⟨p,ys,F⟩=>[F,[(bs,blk [.slice (some ⟨bo,0,none⟩) len cap] 25)],[(bn,blk [.int .i64 (bd:Int)] 3)]]) (fun ⟨p,ys,F⟩=>p=ys.length*bd∧p<len+bd∧J ys F) (fun ⟨p,ys,F⟩=>len+bd - p) (0,[],m0) rfl ?_ ?_ ?_ ?_
 ·exact aF
 ·exact aC
 ·exact ⟨aN,aA,ac⟩
 ·rintro ⟨p,ys,F⟩ ⟨hp,aj,hJ⟩;dsimp only;refine dW fun K2 ad=>?_;refine dW fun K3 ah=>?_;refine cA ?_;refine aQ rfl rfl rfl rfl (aU rfl) ?_;refine aQ rfl rfl rfl rfl (aH Tryz.isAgg25 rfl (rdA rfl)) ?_;refine aQ rfl rfl rfl rfl (iH bX rfl) ?_;refine aQ rfl rfl rfl rfl (o_lss rfl rfl) ?_;refine dM ?_;refine d9 (ah _ _ _ ?_);refine kF rfl (fun c9=>?_) (fun c9=>?_)
  ·have ak:p<len:=aA
   refine iT ?_;refine d9 (ad _ _ _ ?_);refine dW fun K4 ae=>?_;refine gD ?_;refine dW fun K5 ab=>?_;refine r_old ?_;refine gG 6 rfl aW<|gC Tryz.isAgg3 rfl (rdA rfl)<|gC Tryz.isAgg25 rfl (rdA rfl)<|dI 1 rfl<|dB (f7 bX rfl rfl rfl rfl (fun h=>by cases h) p _ _ (.inr ⟨_,_,rfl,aA⟩) (.inl ⟨rfl,rfl⟩) (.inl ⟨rfl,rfl⟩) ⟨aA,aA,aA⟩ (.slice (some ⟨bo,p,none⟩) (len - p) (cap - p)) (by rw [if_neg aA];simp [dG])) ?_
   refine dB (iH bX rfl)<|dB (o_min rfl rfl)<|eI (iX ?_)
   refine aB 1 rfl<|aZ ?_
   refine r_new ?_;refine d9 (ab _ _ _ ?_);refine dW fun K6 aa=>?_;refine cA ?_;refine aQ rfl rfl rfl rfl (aU rfl) ?_;refine aQ rfl rfl rfl rfl (aH Tryz.isAgg25 rfl (rdA rfl)) ?_;refine aQ rfl rfl rfl rfl (aU rfl) ?_;refine aQ rfl rfl rfl rfl (aU rfl) ?_;refine aQ rfl rfl rfl rfl (aU rfl) ?_;refine aQ rfl rfl rfl rfl (a8 rfl rfl) ?_;refine aQ rfl rfl rfl rfl (aU rfl) ?_;refine aQ rfl rfl rfl rfl (aU rfl) ?_;refine aQ rfl rfl rfl rfl (a8 rfl rfl) ?_;refine aQ rfl rfl rfl rfl (f7 bX rfl rfl rfl rfl (fun _=>rfl) p (p+min bd (len - p)) (p+min bd (len - p)) (.inr ⟨_,_,rfl,aA⟩) (.inr ⟨_,_,rfl,aA⟩) (.inr ⟨_,_,rfl,aA⟩) ⟨aA,aA,aA⟩ (ckEnc bo len bd p) (by rw [if_neg aA];simp [dG,ckEnc])) ?_;refine fR rfl rfl rfl (o_yield [F] _ rfl rfl (by repeat (first|exact Sub.refl|refine aM ?_)) (fun w_ hp_=>hY ys p w_ F hJ ⟨hp,aA⟩ hp_.owns (fun k hk=>hp_.fz k hk)) ?_);rintro v22 _ ⟨m2,rfl,ag⟩
   obtain ⟨bb,rfl,U⟩:∃ bb,v22= .bool bb∧((bb=true∧J (ys++[p]) m2)∨(bb=false∧Jx (ys++[p]) m2)):=by
     rcases ag with ⟨rfl,h⟩|⟨rfl,h⟩
     ·exact ⟨_,rfl,.inl ⟨rfl,h⟩⟩
     ·exact ⟨_,rfl,.inr ⟨rfl,h⟩⟩
   dsimp only [aK,aJ];refine aQ rfl rfl rfl rfl (o_not rfl) ?_;refine dM ?_;refine d9 (aa _ _ _ ?_);refine r_condB rfl (fun O=>?_) (fun O=>?_)
   ·refine nF ?_;refine r_br ?_;refine r_tr ?_;refine r_tr ?_;refine r_br ?_;have X:Jx (ys++[p]) m2:=(U.resolve_left (fun h=>by rw [h.1] at O;cases O)).2
    exact r_fin0 [m2,[(bs,blk [.slice (some ⟨bo,0,none⟩) len cap] 25)],[(bn,blk [.int .i64 (bd:Int)] 3)]] Tryz.results170 aC ⟨rfl,m2,_,rfl,.inr ⟨_,rfl,X⟩⟩
   ·have ai:J (ys++[p]) m2:=(U.resolve_right (fun h=>by rw [h.1] at O;cases O)).2
    refine iT ?_;refine r_bn ?_;refine d9 (ae _ _ _ ?_);refine cA ?_;refine aQ rfl rfl rfl rfl (aU rfl) ?_;refine aQ rfl rfl rfl rfl (aH Tryz.isAgg3 rfl (rdA rfl)) ?_;refine aQ rfl rfl rfl rfl (a8 rfl rfl) ?_;refine aQ rfl rfl rfl rfl (bI rfl) ?_;refine dM ?_;refine d9 (lM (p+bd,ys++[p],m2) (by first|omega|(dsimp only;omega)|(simp;omega)) rfl ⟨by rw [List.length_append,List.length_singleton,Nat.succ_mul];omega,aA,ai⟩ ?_ ?_ ?_)
    ·exact aF
    ·exact aF
    ·exact aC
  ·refine lF ?_;refine r_te ?_;refine r_te ?_;refine r_be ?_;exact r_fin0n [F,[(bs,blk [.slice (some ⟨bo,0,none⟩) len cap] 25)],[(bn,blk [.int .i64 (bd:Int)] 3)]] Tryz.results170 aC ⟨rfl,F,_,rfl,.inl ⟨_,⟨aA,rfl⟩,hJ⟩⟩
end Go.Proofs.YthpkelafioikaaaGreat
namespace Go.Proofs.YthpkelafioikaaaGreat.Fly
open Go Go.RowKit
set_option linter.unusedVariables false
set_option linter.unusedSimpArgs false
set_option linter.unusedSectionVars false
def LQ (ds:List Deferred) (Q:Exit→Act→World→Prop):Exit→Act→World→Prop
 | .normal,a,w=>Q .normal { a with defers:=a.defers++ds } w
 |_,_,_=>False
theorem lq_out {ds:List Deferred} {Q:Exit→Act→World→Prop}:¬ LetsOut (nU (LQ ds Q)):=by
 rintro ⟨a,w,h⟩;exact h.elim
theorem put_app (a:Act) (ds:List Deferred) (d:Option Tmp) (v:Value):({ a with defers:=a.defers++ds }:Act).put d v={ a.put d v with defers:=(a.put d v).defers++ds }:=by cases d<;>rfl
section
variable {P:Program} {rd:Option Nat} {ds:List Deferred} {Q:Exit→Act→World→Prop}
theorem op_lift {o:Oper} (hn:nL o.op=true) {a:Act} {w:World} {U K:Act→World→Prop} (J:∀ O w',U O w'→K { O with defers:=O.defers++ds } w')
  (h:o.wp P a w U (nU (LQ ds Q))):o.wpIn (FW rd) 0 P { a with defers:=a.defers++ds } w K Q:=by
 unfold Oper.wp at h
 unfold Oper.wpIn
 refine ⟨fun _ _=>trivial,?_⟩;rw [Oper.semAt_eq _ _ _ (fun c hc=>by rw [hc] at hn;cases hn),oG]
 generalize (execOp a.eval o).run P w=r at h ⊢
 cases r with
 |halt hh w' =>cases hh<;>simp only [Oper.upon] at h<;>exact h.elim
 |ok x w' =>
  cases x with
  |value v=>show K _ w';rw [put_app];exact J _ _ h
  |skip=>show K _ w';rw [put_app];exact J _ _ h
  |defer d=>
   have h1:U (({ a with defers:=d::a.defers }:Act).put o.dst undef) w' :=h
   have h2:=J _ _ h1
   show K (({ a with defers:=d::(a.defers++ds) }:Act).put o.dst undef) w'
   have e:(({ a with defers:=d::(a.defers++ds) }:Act).put o.dst undef)={ ({ a with defers:=d::a.defers }:Act).put o.dst undef with defers:=(({ a with defers:=d::a.defers }:Act).put o.dst undef).defers++ds }:=by
    cases o.dst<;>rfl
   rw [e];exact h2
  |enter f args=>
   have h1:Calls P f args w' _:=h
   refine ⟨(fun h=>by cases h),?_⟩
   show CallsIn Fence.wide 0 P f args w' _
   refine callsIn_wide.2 (Calls.mono h1 ?_);intro e F he
   cases e with
   |returned v=>show K _ F;rw [put_app];exact J _ _ he
   |panicked ch=>exact he.elim
   |outgrown=>exact (lq_out he).elim
  |row r args=>
   have h1:Rows P r args w' _:=h
   refine ⟨(fun h=>by cases h),fun c cs _=>?_⟩;obtain ⟨v,F,hv,X⟩:=h1 c cs
   refine ⟨v,F,?_,(stepsIn_wide (P:=P)).2 X⟩
   show K _ F;rw [put_app];exact J _ _ hv
  |round l f tmps assign body=>exact h.elim
  |_=>exact h.elim
theorem any_lift {ops:Array Oper} {S:World→Prop} (hn:ops.toList.all (fun o=>nL o.op)=true):∀ (fuel:Nat) (listed:Array Bool) (a:Act) (w:World),
  wpAnyH P .any ops (nU (LQ ds Q)) S fuel listed a w→wpAnyIn (FW rd) 0 P .any ops Q fuel listed { a with defers:=a.defers++ds } w
 |0,listed,a,w,h=>h
 |fuel+1,listed,a,w,h=>by
  refine ⟨fun e=>h.1 e,fun i hi=>?_⟩;have h2:=h.2 i hi
  unfold wpOp at h2
  unfold wpOpIn
  cases ho:ops[i]? with
  |none=>rw [ho] at h2;exact any_lift hn fuel _ _ _ h2.2
  |some o=>
   rw [ho] at h2
   have F:nL o.op=true:=by
    have:=List.all_eq_true.1 hn o (by rw [← Array.mem_def];exact Array.mem_of_getElem? ho)
    exact this
   dsimp only at h2 ⊢
   split
   ·rename_i hw
    rw [if_pos hw] at h2
    rcases h2 with h2|h2
    ·exact op_lift F (fun J w' h' =>any_lift hn fuel _ _ _ h'.2) h2
    ·exact (lq_out h2.2).elim
   ·rename_i hw
    rw [if_neg hw] at h2;refine ⟨fun _ _=>trivial,?_⟩;rw [put_app];exact any_lift hn fuel _ _ _ h2.2
end
section
variable {P:Program} {n:Nat} {S:Nat→Prop} {w0:World} {rd:Option Nat} {mk:List Nat} {env:Env} {segs:List Seg} {Q:Exit→Act→World→Prop} {ops:Array Oper} {rest:List Oper} {o:Oper}
theorem r_regionH {id:Nat} {l:List Oper} (base:List Seg) (hm:P.follows .mixedOrders=true) (hn:l.all (fun o=>nL o.op)=true)
  (h:Wh P n S w0 l.toArray (LQ (coll mk) Q) base l.length (Array.replicate l.length false) env segs):WcR P n S w0 rd mk Q env segs (.region id l.toArray true):=fun a w ha hp=>by
 refine wpIn_region_any hm ?_;have h1:=h { a with defers:=[] } { w with drawn:=w.drawn+1 } ha.base (hp.drew (w.drawn+1) (Nat.le_succ _))
 have h2:=any_lift (rd:=rd) (by simpa using hn) _ _ _ _ h1
 have e:({ ({ a with defers:=[] }:Act) with defers:=({ a with defers:=[] }:Act).defers++coll mk }:Act)=a:=by
  show ({ a with defers:=[]++coll mk }:Act)=a
  rw [List.nil_append,← ha.defers]
 rw [e] at h2
 simpa using h2
theorem r_back (h:WqR n S w0 mk (Q .normal) env segs):Wq n S w0 (LQ (coll mk) Q .normal) env segs:=fun a w ha hp=>by
 refine h { a with defers:=a.defers++coll mk } w ⟨ha.size,?_,ha.get⟩ hp
 show a.defers++coll mk=coll mk
 rw [ha.defers,List.nil_append]
end
end Go.Proofs.YthpkelafioikaaaGreat.Fly
namespace Go.Proofs.YthpkelafioikaaaGreat
open Go Go.RowKit Fly
set_option maxRecDepth 100000
set_option maxHeartbeats 4000000
set_option linter.all false
theorem reps_boolC (n:Nat) (b:Bool):(List.replicate n [Value.bool b]).flatten=gA (List.replicate n b):=by
 induction n with
 |zero=>rfl
 |succ n ih=>rw [List.replicate_succ,List.flatten_cons,ih];rfl
theorem div_at {q t c b:Nat} (hq:q=c*b) (F:t<b):(q+t) / b=c:=by
 subst hq;rw [Nat.add_comm,Nat.add_mul_div_right _ _ aA,Nat.div_eq_of_lt F,Nat.zero_add]
theorem putTo_add (vs ord:List Int) (b:Nat) (nx:Int) (out:List Int) (y t:Nat):j4 vs ord b nx out (y+(t+1))=(j4 vs ord b nx out (y+t)).set (putAt vs ord (y+t)) (nx+(((y+t) / b:Nat):Int)):=rfl
theorem ceil_at {m c b:Nat} (hb:0<b) (h1:m≤c*b) (h2:c*b<m+b):(m+b - 1) / b=c:=by
 refine Nat.div_eq_of_lt_le aA ?_;rw [Nat.succ_mul];omega
theorem CutUp_spec (N:Int) (A B:Option Addr) (l:List Arc) (cap:Nat) (L:List Int) (cb:Nat) (bi:Int) (w:World) (hr:Ro (Fr w []) w A (l.flatMap bZ)) (hl:l.length≤9223372036854775807) (hN:I64 N) (hok:∀ x∈l,eK x) (hL:Ro (Fr w []) w B (bF L)) (hm:L.length≤9223372036854775807):
    Meets Tryz.prog 84 [.agg #[.int .i64 N,.slice A l.length cap],.slice B L.length cb,.int .i64 bi] w [] (fun u own' =>∃ (R:List Int) (A' :Option Addr) (c:Nat) (m' :Seg),u= .tuple #[.slice A' R.length c,.int .i64 (spE N l L bi)]∧own' =[m']∧Own 3 1 (.slice A' R.length c) R.length (bF R) m'∧(spE N l L bi≠0→R=[])∧(spE N l L bi=0→R=cutL l L bi.toNat)):=by
 refine r_enter Tryz.func84 rfl Tryz.ntmps84 rfl Owns.nil ?_;refine dW fun K1 bW=>?_;refine cA ?_;refine fR rfl rfl rfl (Does.toR rfl (cT rfl rfl fun b3=>?_));refine aQ rfl rfl rfl rfl (bI rfl) ?_;refine aQ rfl rfl rfl rfl (bI rfl) ?_;refine dM ?_;refine d9 (bW _ _ _ ?_);refine dW fun K2 cz=>?_;refine dW fun K3 cr=>?_;refine cA ?_;refine aQ rfl rfl rfl rfl (aO (vs:=[_,_]) Tryz.isAgg24 Tryz.sizeOf24 rfl rfl ⟨(rdA rfl),(rdA rfl),trivial⟩) ?_;refine aQ rfl rfl rfl rfl (aU rfl) ?_;refine aQ rfl rfl rfl rfl (aU rfl) ?_;refine fR rfl rfl rfl (Does.toR rfl (aV Tryz.call86 rfl (fun w_ hp_=>splook_spec N A B l cap L cb bi w_ (hr.up0 hp_) hl hN hok (hL.up0 hp_) hm) ?_));rintro _ _ ⟨rfl,rfl⟩;dsimp only [aK,aJ];refine aQ rfl rfl rfl rfl (bI rfl) ?_;refine dM ?_;refine d9 (cr _ _ _ ?_);refine dW fun K4 ci=>?_;refine cA ?_;refine aQ rfl rfl rfl rfl (aU rfl) ?_;refine aQ rfl rfl rfl rfl (o_neq rfl rfl) ?_;refine dM ?_;refine d9 (ci _ _ _ ?_);refine kF rfl (fun ad=>?_) (fun ad=>?_)
 ·refine dW fun K5 b6=>?_;refine cA ?_;refine aQ rfl rfl rfl rfl (aU rfl) ?_;refine aQ rfl rfl rfl rfl (bI rfl) ?_;refine aQ rfl rfl rfl rfl (bI rfl) ?_;refine dM ?_;refine d9 (b6 _ _ _ ?_);refine nF ?_;refine r_tr ?_;have aq:spE N l L bi≠0:=by simpa using ad
  exact lE [[]] Tryz.results84 rfl rfl (show Fly.Sub _ [[]] from aC) ⟨[],none,0,[],rfl,rfl,Own.nil _ _,fun _=>rfl,fun h=>absurd h aq⟩
 ·have hz:spE N l L bi=0:=by simpa using ad
  obtain ⟨n,rfl,ct,bw,hg,hR,du⟩:=spE_zero hz
  obtain rfl:L.length=n:=(d6 hR).2
  have ag:=e5 hR ct
  obtain ⟨b,rfl⟩:∃ b:Nat,bi=(b:Int):=⟨bi.toNat,aA⟩
  obtain ⟨_,_,bC,_⟩:=bS hg
  refine iT ?_;refine d9 (cz _ _ _ ?_);refine dW fun K6 bY=>?_;refine cA ?_;refine aQ rfl rfl rfl rfl (aU rfl) ?_;refine fR rfl rfl rfl (Does.toR rfl (aV Tryz.call56 rfl (fun w_ hp_=>oM B L.length (bF L) cb w_ (hL.up0 hp_) (fun e=>by rw [e] at hL;obtain ⟨_,_,e',_⟩:=hL (fun e=>by have:=a7 L;rw [e] at this;simp at this;omega);cases e') (by rw [a7];omega) (ints_oneG _) aA) ?_));rintro dh _ ⟨dm,rfl,ah⟩;obtain ⟨bo,co,sp,rfl,rfl⟩:=ah.block aA
  dsimp only [aK,aJ];refine fR rfl rfl rfl (Does.toR rfl (cQ Tryz.zeroValue25 rfl fun b9=>?_));refine kS rfl rfl (Does.toR rfl (bU Tryz.sizeOf25 rfl rfl rfl rfl cF _ rfl ?_));refine dM ?_;refine d9 (bY _ _ _ ?_);refine dW fun K7 b8=>?_;refine cA ?_;refine aQ rfl rfl rfl rfl (aT eT rfl) ?_;refine aQ rfl rfl rfl rfl (aH Tryz.isAgg3 rfl (rdA rfl)) ?_;refine fR rfl rfl rfl (Does.toR rfl (cQ Tryz.zeroValue3 rfl fun J=>?_));refine kS rfl rfl (Does.toR rfl (bU Tryz.sizeOf3 rfl rfl rfl rfl cF _ rfl ?_));refine dM ?_;refine d9 (b8 _ _ _ ?_);refine dW fun K8 b4=>?_;refine dW fun K9 cm=>?_;refine cA ?_;refine aQ rfl rfl rfl rfl (aU rfl) ?_;refine fR rfl rfl rfl (Does.toR rfl (aV Tryz.call88 rfl (fun w_ hp_=>p9 B L cb w_ (hL.up0 hp_) aA aA (fun x hx=>by have:=ag x hx;omega)) ?_));rintro _ _ ⟨bs,rfl,rfl⟩;obtain ⟨M,hM⟩:∃ M:Nat,(e9 L+1).toNat=M:=⟨_,rfl⟩
  rw [dZ,hM];rw [hM] at ag;have c5:=(ag L[0] (List.getElem_mem aA)).2.2
  dsimp only [aK,aJ];refine aQ rfl rfl rfl rfl (iH bX rfl) ?_;refine aQ rfl rfl rfl rfl (aU rfl) ?_;refine dM ?_;refine d9 (cm _ _ _ ?_);refine gD ?_;refine r_loop (α:=Nat×List Nat) (fun ⟨j,mk⟩=>mk) [1,2,3,9,10,35,36,85] (fun ⟨j,mk⟩=>[(37,.int .i64 (j:Int))]) (fun ⟨j,mk⟩=>[mks mk,[(bo,blk (bF (eE l L b j).1++sp) 3)],[(J,blk [.int .i64 ((eE l L b j).2)] 3)],[(b9,blk [.slice (some ⟨bo,0,none⟩) L.length co] 25)],[(bs,blk (bF (szs M L)) 3)],[(b3,blk [.int .i64 (L.length:Int),.slice A l.length cap] 24)]]) (fun ⟨j,mk⟩=>j≤M) (fun ⟨j,mk⟩=>M - j) (0,[]) rfl ?_ ?_ ?_ ?_
  ·exact aF
  ·exact aC
  ·exact Nat.zero_le _
  ·rintro ⟨j,mk⟩ b7;dsimp only at b7 ⊢;refine dW fun df bp=>?_;refine cA ?_;refine aQ rfl rfl rfl rfl (o_lss rfl rfl) ?_;refine dM ?_;refine d9 (bp _ _ _ ?_);refine dW fun dc bt=>?_;refine kF rfl (fun cw=>?_) (fun cw=>?_)
   ·have hj:j<M:=aA
    have cJ:=cnt_le L j
    have dk:=cutTo_next (l:=l) (b:=b) bw bC aA j
    refine iT ?_;refine d9 (bt _ _ _ ?_);refine dW fun ec ab=>?_;refine gD ?_;refine dW fun di ay=>?_;refine cA ?_;refine aQ rfl rfl rfl rfl (aU rfl) ?_;refine aQ rfl rfl rfl rfl (aL bX rfl rfl (j)) ?_;refine aQ rfl rfl rfl rfl (aH Tryz.isAgg3 rfl (rdA (v:= .int .i64 (cnt L j:Int)) (by rw [eG (by rw [gO];exact hj),kP hj]))) ?_;refine aQ rfl rfl rfl rfl (bI rfl) ?_;refine aQ rfl rfl rfl rfl (bI rfl) ?_;refine dM ?_;refine d9 (ay _ _ _ ?_);refine dW fun ea av=>?_;refine dW fun c0 ba=>?_;refine cA ?_;refine aQ rfl rfl rfl rfl (aU rfl) ?_;refine aQ rfl rfl rfl rfl (aU rfl) ?_;refine aQ rfl rfl rfl rfl (o_leq rfl rfl) ?_;refine dM ?_;refine d9 (ba _ _ _ ?_);refine kF rfl (fun cp=>?_) (fun cp=>?_)
    ·refine lF ?_;refine r_te ?_;refine r_be ?_;refine d9 (ab _ _ _ ?_);refine cA ?_;refine aQ rfl rfl rfl rfl (a8 rfl rfl) ?_;refine aQ rfl rfl rfl rfl (aU rfl) ?_;refine dM ?_;have ak:eE l L b (j+1)=eE l L b j:=if_pos aA
     rw [← ak];refine d9 (lM (j+1,mk) (by first|omega|(dsimp only;omega)|(simp;omega)) rfl (by show j+1≤M;omega) ?_ ?_ ?_)
     ·exact aF
     ·exact aF
     ·exact aC
    ·have Z:=cut_ok (l:=l) bw bC (show 0<cnt L j by omega)
     have ce:0<(dV l L j).length:=List.length_pos_of_mem (Z.all 0 (by have:=Z.has;omega))
     have cH:=Z.few
     have cK:=Z.olen
     refine iT ?_;refine d9 (av _ _ _ ?_);refine dW fun dp bD=>?_;refine cA ?_;refine aQ rfl rfl rfl rfl (aT eT rfl) ?_;refine aQ rfl rfl rfl rfl (aH Tryz.isAgg3 rfl (rdA rfl)) ?_;refine fR rfl rfl rfl (Does.toR rfl (eZ el37 rfl rfl L.length rfl aA aA (gA (kpTo L j 0)) (by rw [kpTo_zero];exact reps_boolC L.length false) fun aj=>?_));refine aQ rfl rfl rfl rfl (bI rfl) ?_;refine dM ?_;refine d9 (bD _ _ _ ?_);refine dW fun ed bk=>?_;refine dW fun cM ap=>?_;refine cA ?_;refine aQ rfl rfl rfl rfl (aU rfl) ?_;refine aQ rfl rfl rfl rfl (iH o9 rfl) ?_;refine aQ rfl rfl rfl rfl (aU rfl) ?_;refine dM ?_;refine d9 (ap _ _ _ ?_);refine gD ?_;refine r_loop (α:=Nat) (fun k=>mk) [1,2,3,9,10,11,13,20,35,36,37,49,85] (fun k=>[(50,.int .i64 (k:Int))]) (fun k=>[mks mk,[(aj,blk (gA (kpTo L j k)) 4)],[(bo,blk (bF (eE l L b j).1++sp) 3)],[(J,blk [.int .i64 ((eE l L b j).2)] 3)],[(b9,blk [.slice (some ⟨bo,0,none⟩) L.length co] 25)],[(bs,blk (bF (szs M L)) 3)],[(b3,blk [.int .i64 (L.length:Int),.slice A l.length cap] 24)]]) (fun k=>k≤L.length) (fun k=>L.length - k) (0) rfl ?_ ?_ ?_ ?_
     ·exact aF
     ·exact aC
     ·exact Nat.zero_le _
     ·rintro k cR;refine r_envC (e:=[(50,_),(1,_),(2,_),(3,_),(9,_),(10,_),(11,_),(13,_),(35,_),(36,_),(37,_),(49,_)]) aF ?_;refine dW fun c2 a2=>?_;refine cA ?_;refine aQ rfl rfl rfl rfl (o_lss rfl rfl) ?_;refine dM ?_;refine d9 (a2 _ _ _ ?_);refine dW fun c3 bg=>?_;refine kF rfl (fun cC=>?_) (fun cC=>?_)
      ·have hk:k<L.length:=aA
       obtain ⟨bb,ob,rfl,cf,b2⟩:=hL (fun e=>by have:=a7 L;rw [e] at this;simp at this;omega)
       refine iT ?_;refine d9 (bg _ _ _ ?_);refine dW fun c1 az=>?_;refine gD ?_;refine dW fun cW am=>?_;refine cA ?_;refine aQ rfl rfl rfl rfl (aU rfl) ?_;refine aQ rfl rfl rfl rfl (bI rfl) ?_;refine dM ?_;refine d9 (am _ _ _ ?_);refine cA ?_;refine aQ rfl rfl rfl rfl (aU rfl) ?_;refine aQ rfl rfl rfl rfl (aU rfl) ?_;refine aQ rfl rfl rfl rfl (aU rfl) ?_;refine aQ rfl rfl rfl rfl (aU rfl) ?_;refine aQ rfl rfl rfl rfl (aL bX rfl rfl (ob+k)) ?_;refine aQ rfl rfl rfl rfl (aH Tryz.isAgg3 rfl (d3 (enc:=(.int .i64 ·)) cf b2 hk)) ?_;refine aQ rfl rfl rfl rfl (aU rfl) ?_;refine aQ rfl rfl rfl rfl (o_eql rfl rfl) ?_;refine aQ rfl rfl rfl rfl (aL o9 rfl rfl (k)) ?_;refine kS rfl rfl (Does.toR rfl (bU Tryz.sizeOf4 rfl rfl rfl rfl (by simp [kpTo_len];omega) (gA (kpTo L j (k+1))) (by rw [boolsG_set,kpTo_next hk]) ?_));refine dM ?_;refine r_bn ?_;refine d9 (az _ _ _ ?_);refine cA ?_;refine aQ rfl rfl rfl rfl (a8 rfl rfl) ?_;refine aQ rfl rfl rfl rfl (aU rfl) ?_;refine dM ?_;refine d9 (lM (k+1) (by first|omega|(dsimp only;omega)|(simp;omega)) rfl aA ?_ ?_ ?_)
       ·exact aF
       ·exact aF
       ·exact aC
      ·refine lF ?_;refine r_te ?_;refine r_te ?_;refine r_be ?_;refine d9 (bk _ _ _ ?_);refine dW fun dw bq=>?_;obtain rfl:k=L.length:=aA
       rw [kpTo_all];refine cA ?_;refine aQ rfl rfl rfl rfl (aO (vs:=[_,_]) Tryz.isAgg24 Tryz.sizeOf24 rfl rfl ⟨(rdA rfl),(rdA rfl),trivial⟩) ?_;refine aQ rfl rfl rfl rfl (aU rfl) ?_;refine fR rfl rfl rfl (Does.toR rfl (aV Tryz.call136 rfl (fun w_ hp_=>(by have h:=Induced_spec (L.length:Int) A l cap (some ⟨aj,0,none⟩) (iC L j) L.length w_ (hr.up0 hp_) (fP (b:=aj) hp_ (cs:=(iC L j).map .bool) (fun j v hj=>hj)) hl hN hok;rw [lG] at h;exact h)) ?_));rintro v66 cq hI
       unfold nA at hI
       rw [if_neg (by rw [hg];simp),if_neg (by rw [lG];simp),if_neg Z.has] at hI;obtain ⟨sa,sv,sl,ma,mv,ml,rfl,rfl,ax,cg,b1⟩:=hI
       obtain ⟨Aa,ca,rfl,eh⟩:=ax.val
       obtain ⟨Y,cv,X,rfl,rfl⟩:=cg.block (Nat.pos_of_ne_zero Z.has)
       obtain ⟨Al,cl,rfl,ae⟩:=b1.val
       have c9:=sub_len (iC L j) l
       dsimp only [aK,aJ];refine aQ rfl rfl rfl rfl (aU rfl) ?_;refine aQ rfl rfl rfl rfl (eU rfl rfl) ?_;refine aQ rfl rfl rfl rfl (eU rfl rfl) ?_;refine aQ rfl rfl rfl rfl (eU rfl rfl) ?_;refine aQ rfl rfl rfl rfl (eU rfl rfl) ?_;refine fR rfl rfl rfl (Does.toR rfl (cQ Tryz.zeroValue24 rfl fun dq=>?_));refine fR rfl rfl rfl (Does.toR rfl (cQ Tryz.zeroValue25 rfl fun O=>?_));refine kS rfl rfl (Does.toR rfl (bP Tryz.sizeOf24 rfl rfl rfl rfl cF [.int .i64 ((eN L j).length:Int),.slice Aa (fJ (iC L j) l).length ca] rfl ?_));refine kS rfl rfl (Does.toR rfl (bU Tryz.sizeOf25 rfl rfl rfl rfl cF _ rfl ?_));refine aQ rfl rfl rfl rfl (bI rfl) ?_;refine aQ rfl rfl rfl rfl (bI rfl) ?_;refine dM ?_;refine d9 (bq _ _ _ ?_);refine dW fun dd bK=>?_;refine dW fun c4 bf=>?_;refine cA ?_;refine aQ rfl rfl rfl rfl (aU rfl) ?_;refine aQ rfl rfl rfl rfl (o_neq rfl rfl) ?_;refine dM ?_;refine d9 (bf _ _ _ ?_);refine r_condN rfl aN ?_;refine iT ?_;refine d9 (bK _ _ _ ?_);refine dW fun ds ao=>?_;refine cA ?_;refine aQ rfl rfl rfl rfl (aO (vs:=[_,_]) Tryz.isAgg24 Tryz.sizeOf24 rfl rfl ⟨(rdA rfl),(rdA rfl),trivial⟩) ?_;refine fR rfl rfl rfl (Does.toR rfl (aV Tryz.call137 rfl (fun w_ hp_=>(by have h:=Order_spec ((eN L j).length:Int) Aa (fJ (iC L j) l) ca w_ (eS (ax.seen hp_)) aA ⟨aA,aA⟩ (sub_ok (by rw [lG];omega) hok);rw [Z.ord] at h;exact h)) ?_));rintro _ _ ⟨ef,mo,rfl,rfl,ai⟩;dsimp only at ai ⊢;obtain ⟨F,aa,U,rfl,rfl⟩:=ai.block ce
       obtain ⟨_,_,cu,cD⟩:=ai.val
       cases cu
       dsimp only [aK,aJ];refine aQ rfl rfl rfl rfl (aU rfl) ?_;refine aQ rfl rfl rfl rfl (eU rfl rfl) ?_;refine aQ rfl rfl rfl rfl (eU rfl rfl) ?_;refine aQ rfl rfl rfl rfl (bI rfl) ?_;refine aQ rfl rfl rfl rfl (bI rfl) ?_;refine dM ?_;refine d9 (ao _ _ _ ?_);refine dW fun db a1=>?_;refine dW fun dj bu=>?_;refine cA ?_;refine aQ rfl rfl rfl rfl (aU rfl) ?_;refine aQ rfl rfl rfl rfl (o_neq rfl rfl) ?_;refine dM ?_;refine d9 (bu _ _ _ ?_);refine r_condN rfl aN ?_;refine iT ?_;refine d9 (a1 _ _ _ ?_);refine dW fun ee bj=>?_;refine cA ?_;refine aQ rfl rfl rfl rfl (aU rfl) ?_;refine aQ rfl rfl rfl rfl (aU rfl) ?_;refine fR rfl rfl rfl (Does.toR rfl (aV Tryz.call138 rfl (fun w_ hp_=>Chunk_spec F (dV l L j).length aa b w_ aA) ?_));rintro _ _ ⟨q1,q2,rfl,rfl⟩;dsimp only [aK,aJ];refine dM ?_;refine d9 (bj _ _ _ ?_);refine gD ?_;refine r_range (p:=85) (lb:=[.pointer (some ⟨q1,0,none⟩),.pointer (some ⟨q2,0,none⟩)]) rfl Tryz.call170 rfl [[(bo,blk (bF (eE l L b j).1++sp) 3)],[(J,blk [.int .i64 ((eE l L b j).2)] 3)],[(b9,blk [.slice (some ⟨bo,0,none⟩) L.length co] 25)],[(O,blk [.slice (some ⟨Y,0,none⟩) (eN L j).length cv] 25)],[(Y,blk (bF (eN L j)++X) 3)],[(F,blk (bF (dV l L j)++U) 3)]] [[(q1,blk [.slice (some ⟨F,0,none⟩) (dV l L j).length aa] 25)],[(q2,blk [.int .i64 (b:Int)] 3)]] [mks mk,[(bs,blk (bF (szs M L)) 3)],[(b3,blk [.int .i64 (L.length:Int),.slice A l.length cap] 24)]] (by repeat (first|exact Sub.refl|exact aP|refine aM ?_|refine cE rfl ?_|refine fU ?_)) (ckEnc F (dV l L j).length b) (may:=ckMay (dV l L j).length b) (Fin:=ckFin q1 q2 F (dV l L j).length aa b) (Stp:=ckStp q1 q2 F (dV l L j).length aa b) (fun al cd hp_=>Chunk1_iter q1 q2 F (dV l L j).length aa b cd al ⟨aA,aA⟩ aA ⟨aA,aA⟩) (fun ys m=>ys.length*b<(dV l L j).length+b∧∃ q c:Nat,q=min (ys.length*b) (dV l L j).length∧c=ys.length∧m=[(bo,blk (bF (j4 (eN L j) (dV l L j) b (eE l L b j).2 (eE l L b j).1 (q))++sp) 3),(J,blk [.int .i64 ((eE l L b j).2+(c:Int))] 3),(b9,blk [.slice (some ⟨bo,0,none⟩) L.length co] 25),(O,blk [.slice (some ⟨Y,0,none⟩) (eN L j).length cv] 25),(Y,blk (bF (eN L j)++X) 3),(F,blk (bF (dV l L j)++U) 3)]) (fun _ _=>False) (.ret) (⟨by simp;omega,0,0,aN,rfl,by simp [j4]⟩) ?_ ?_ ?_
       ·intro al l_ d_ ys y m_ hI bL cY K_ br;obtain ⟨hlt,q,c,hq,rfl,rfl⟩:=hI
        obtain ⟨hy,da⟩:=bL
        have dT:ys.length≤ys.length*b:=Nat.le_mul_of_pos_right _ aA
        obtain rfl:y=q:=aA
        refine r_subC (Sub.op3 (parts:=[[(bo,blk (bF (j4 (eN L j) (dV l L j) b (eE l L b j).2 (eE l L b j).1 (y))++sp) 3)],[(J,blk [.int .i64 ((eE l L b j).2+(ys.length:Int))] 3)],[(b9,blk [.slice (some ⟨bo,0,none⟩) L.length co] 25)],[(O,blk [.slice (some ⟨Y,0,none⟩) (eN L j).length cv] 25)],[(Y,blk (bF (eN L j)++X) 3)],[(F,blk (bF (dV l L j)++U) 3)]]) aN Sub.refl) ?_;dsimp only [aK,aJ];refine cA ?_;refine aQ rfl rfl rfl rfl (bI rfl) ?_;refine dM ?_;refine d9 (br _ _ ?_);clear br;refine gD ?_;refine dW fun c6 ar=>?_;refine dW fun dr au=>?_;refine cA ?_;refine aQ rfl rfl rfl rfl (aU rfl) ?_;refine aQ rfl rfl rfl rfl (iH bX rfl) ?_;refine aQ rfl rfl rfl rfl (aU rfl) ?_;refine dM ?_;refine d9 (au _ _ _ ?_);refine gD ?_;refine r_loop (α:=Nat) (fun t=>[]) [1,2,3,9,10,16,20,35,36,37,85,86,87] (fun t=>[(88,.int .i64 (t:Int))]) (fun t=>[[(l_,.loop (d_.rc .busy none))],[(d_.D,.deferred (some []))],[(bo,blk (bF (j4 (eN L j) (dV l L j) b (eE l L b j).2 (eE l L b j).1 (y+t))++sp) 3)],[(J,blk [.int .i64 ((eE l L b j).2+(ys.length:Int))] 3)],[(b9,blk [.slice (some ⟨bo,0,none⟩) L.length co] 25)],[(O,blk [.slice (some ⟨Y,0,none⟩) (eN L j).length cv] 25)],[(Y,blk (bF (eN L j)++X) 3)],[(F,blk (bF (dV l L j)++U) 3)]]) (fun t=>t≤min b ((dV l L j).length - y)) (fun t=>min b ((dV l L j).length - y) - t) (0) rfl ?_ ?_ ?_ ?_
        ·exact aF
        ·exact aC
        ·exact Nat.zero_le _
        ·rintro t c8;refine r_envC (e:=[(88,_),(1,_),(2,_),(3,_),(9,_),(10,_),(16,_),(20,_),(35,_),(36,_),(37,_),(85,_),(86,_),(87,_)]) aF ?_;refine dW fun de an=>?_;refine cA ?_;refine aQ rfl rfl rfl rfl (o_lss rfl rfl) ?_;refine dM ?_;refine d9 (an _ _ _ ?_);refine dW fun dt bR=>?_;refine kF rfl (fun cj=>?_) (fun cj=>?_)
         ·have ht:t<min b ((dV l L j).length - y):=aA
          obtain ⟨q',cn,cB,u,hu,⟨cP,_⟩,bh,_⟩:=Z.at (i:=y+t) aA
          have aw:=div_at (q:=y) (t:=t) (b:=b) hy aA
          have b5:(j4 (eN L j) (dV l L j) b (eE l L b j).2 (eE l L b j).1 (y+t)).set u ((eE l L b j).2+(ys.length:Int))=(j4 (eN L j) (dV l L j) b (eE l L b j).2 (eE l L b j).1 (y+(t+1))):=by rw [putTo_add,bh,aw]
          refine iT ?_;refine d9 (bR _ _ _ ?_);refine dW fun eb bM=>?_;refine gD ?_;refine dW fun dl bc=>?_;refine cA ?_;refine aQ rfl rfl rfl rfl (aL bX rfl rfl (y+t)) ?_;refine aQ rfl rfl rfl rfl (aH Tryz.isAgg3 rfl (rdA (v:= .int .i64 (q' :Int)) (eF (by rw [eG aA,cn])))) ?_;refine aQ rfl rfl rfl rfl (bI rfl) ?_;refine dM ?_;refine d9 (bc _ _ _ ?_);refine r_regionH [[(l_,.loop (d_.rc .busy none))],[(d_.D,.deferred (some []))],[(J,blk [.int .i64 ((eE l L b j).2+(ys.length:Int))] 3)],[(b9,blk [.slice (some ⟨bo,0,none⟩) L.length co] 25)],[(O,blk [.slice (some ⟨Y,0,none⟩) (eN L j).length cv] 25)],[(Y,blk (bF (eN L j)++X) 3)],[(F,blk (bF (dV l L j)++U) 3)]] rfl aW ?_;refine f_T 0 rfl (aH Tryz.isAgg25 rfl (rdA rfl))<|f_T 1 rfl (aH Tryz.isAgg25 rfl (rdA rfl))<|f_T 2 rfl (aU rfl)<|f_T 3 rfl (aL bX rfl rfl (q'))<|f_T 4 rfl (aH Tryz.isAgg3 rfl (rdA (v:= .int .i64 (u:Int)) (eF (by rw [eG cB,hu])))) ?_
          refine f_T 5 rfl (aH Tryz.isAgg3 rfl (rdA rfl))<|f_T 6 rfl (aL bX rfl rfl (u))<|fZ 7 rfl (bU Tryz.sizeOf3 rfl rfl rfl rfl (by rw [List.length_append,a7,putTo_len,jZ];omega) (bF (j4 (eN L j) (dV l L j) b (eE l L b j).2 (eE l L b j).1 (y+(t+1)))++sp) (by rw [← b5,List.set_append_left _ _ (by rw [a7,putTo_len,jZ];omega)];simp [bF,List.map_set]) ⟨aC,?_⟩)
          refine cU aW ?_;refine r_back ?_;refine r_bn ?_;refine d9 (bM _ _ _ ?_);refine cA ?_;refine aQ rfl rfl rfl rfl (a8 rfl rfl) ?_;refine aQ rfl rfl rfl rfl (aU rfl) ?_;refine dM ?_;refine d9 (lM (t+1) (by first|omega|(dsimp only;omega)|(simp;omega)) rfl aA ?_ ?_ ?_)
          ·exact aF
          ·exact aF
          ·exact aC
         ·refine lF ?_;refine r_te ?_;refine r_te ?_;refine r_be ?_;refine d9 (ar _ _ _ ?_);refine cA ?_;refine aQ rfl rfl rfl rfl (aH Tryz.isAgg3 rfl (rdA rfl)) ?_;refine aQ rfl rfl rfl rfl (a8 rfl rfl) ?_;refine kS rfl rfl (Does.toR rfl (bU Tryz.sizeOf3 rfl rfl rfl rfl cF _ rfl ?_));refine dM ?_;refine r_bn ?_;exact qF (m' :=[(bo,blk (bF (j4 (eN L j) (dV l L j) b (eE l L b j).2 (eE l L b j).1 (y+t))++sp) 3),(J,blk [.int .i64 ((eE l L b j).2+(ys.length:Int)+1)] 3),(b9,blk [.slice (some ⟨bo,0,none⟩) L.length co] 25),(O,blk [.slice (some ⟨Y,0,none⟩) (eN L j).length cv] 25),(Y,blk (bF (eN L j)++X) 3),(F,blk (bF (dV l L j)++U) 3)]) (Sub.reg (out:=[[(l_,.loop (d_.rc .busy none))],[(d_.D,.deferred (some []))],[(bo,blk (bF (j4 (eN L j) (dV l L j) b (eE l L b j).2 (eE l L b j).1 (y+t))++sp) 3)],[(J,blk [.int .i64 ((eE l L b j).2+(ys.length:Int)+1)] 3)],[(b9,blk [.slice (some ⟨bo,0,none⟩) L.length co] 25)],[(O,blk [.slice (some ⟨Y,0,none⟩) (eN L j).length cv] 25)],[(Y,blk (bF (eN L j)++X) 3)],[(F,blk (bF (dV l L j)++U) 3)]]) aC aN) ⟨by rw [List.length_append,List.length_singleton,Nat.succ_mul];omega,y+t,ys.length+1,by rw [List.length_append,List.length_singleton,Nat.succ_mul];omega,aN,by rw [show (eE l L b j).2+((ys.length+1:Nat):Int)=(eE l L b j).2+(ys.length:Int)+1 by omega]⟩
       ·intro D_ ys m_ o_ hF hI;obtain ⟨hlt,q,c,hq,rfl,ck⟩:=hI
        obtain ⟨cy,rfl⟩:=hF
        obtain rfl:q=(dV l L j).length:=aA
        have ac:eE l L b (j+1)=((j4 (eN L j) (dV l L j) b (eE l L b j).2 (eE l L b j).1 ((dV l L j).length)),(eE l L b j).2+((((dV l L j).length+b - 1) / b:Nat):Int)):=if_neg aA
        rw [ceil_at aA cy hlt] at ac;have hm2:m_=[(bo,blk (bF (eE l L b (j+1)).1++sp) 3),(J,blk [.int .i64 ((eE l L b (j+1)).2)] 3),(b9,blk [.slice (some ⟨bo,0,none⟩) L.length co] 25),(O,blk [.slice (some ⟨Y,0,none⟩) (eN L j).length cv] 25),(Y,blk (bF (eN L j)++X) 3),(F,blk (bF (dV l L j)++U) 3)]:=by rw [ck,ac]
        subst hm2;refine r_subQ (Sub.reg (out:=[[(D_,.deferred (some []))],mks mk,[(bo,blk (bF (eE l L b (j+1)).1++sp) 3)],[(J,blk [.int .i64 ((eE l L b (j+1)).2)] 3)],[(b9,blk [.slice (some ⟨bo,0,none⟩) L.length co] 25)],[(bs,blk (bF (szs M L)) 3)],[(b3,blk [.int .i64 (L.length:Int),.slice A l.length cap] 24)]]) (out' :=[mks (D_::mk),[(bo,blk (bF (eE l L b (j+1)).1++sp) 3)],[(J,blk [.int .i64 ((eE l L b (j+1)).2)] 3)],[(b9,blk [.slice (some ⟨bo,0,none⟩) L.length co] 25)],[(bs,blk (bF (szs M L)) 3)],[(b3,blk [.int .i64 (L.length:Int),.slice A l.length cap] 24)]]) (Sub.op2 (parts:=[[(bo,blk (bF (eE l L b (j+1)).1++sp) 3)],[(J,blk [.int .i64 ((eE l L b (j+1)).2)] 3)],[(b9,blk [.slice (some ⟨bo,0,none⟩) L.length co] 25)],[(O,blk [.slice (some ⟨Y,0,none⟩) (eN L j).length cv] 25)],[(Y,blk (bF (eN L j)++X) 3)],[(F,blk (bF (dV l L j)++U) 3)]]) aN (by dsimp only [aK,aJ];repeat first|exact aP|refine aM ?_|refine cE rfl ?_|refine fU ?_)) (by simp [mks])) ?_;refine r_bn ?_;refine r_bn ?_;refine d9 (ab _ _ _ ?_);refine cA ?_;refine aQ rfl rfl rfl rfl (a8 rfl rfl) ?_;refine aQ rfl rfl rfl rfl (aU rfl) ?_;refine dM ?_;refine d9 (lM (j+1,D_::mk) (by first|omega|(dsimp only;omega)|(simp;omega)) rfl (by show j+1≤M;omega) ?_ ?_ ?_)
        ·exact aF
        ·exact aF
        ·exact aC
       ·intro D_ ys m_ o_ hF hI;exact hI.elim
   ·obtain rfl:M=j:=aA
    refine lF ?_;refine r_te ?_;refine r_te ?_;refine r_be ?_;refine d9 (b4 _ _ _ ?_);refine dW fun dn bB=>?_;refine cA ?_;refine aQ rfl rfl rfl rfl (aH Tryz.isAgg25 rfl (rdA rfl)) ?_;refine fR rfl rfl rfl (Does.toR rfl (d4 [[(bo,blk (bF (eE l L b M).1++sp) 3)]] _ Tryz.call93 rfl (by repeat (first|exact Sub.refl|refine aM ?_)) (fun w_ hp_=>(by have h:=tidy_spec bo co (eE l L b M).1 sp w_ (by rw [jZ];omega) (by rw [jZ];omega) (pD ah (jZ l L b M)) hp_.owns;rw [jZ] at h;exact h)) ?_));rintro _ _ ⟨rfl,rfl,cI⟩;dsimp only [aK,aJ];refine dM ?_;refine d9 (bB _ _ _ ?_);refine dW fun dz be=>?_;refine cA ?_;refine aQ rfl rfl rfl rfl (aH Tryz.isAgg25 rfl (rdA rfl)) ?_;refine aQ rfl rfl rfl rfl (bI rfl) ?_;refine aQ rfl rfl rfl rfl (bI rfl) ?_;refine dM ?_;refine d9 (be _ _ _ ?_);refine nF ?_;have ae:(cutL l L b).length=L.length:=by unfold cutL;rw [gI,jZ]
    exact lE [[(bo,blk (bF (cutL l L b)++sp) 3)]] Tryz.results84 rfl rfl (by rw [cutL,hM];repeat first|exact aP|refine aM ?_|refine cE rfl ?_|refine fU ?_) ⟨cutL l L b,some ⟨bo,0,none⟩,co,_,by rw [ae,hz],rfl,(by have:=pD (L2:=cutL l L b) ah ae;exact this),fun h=>absurd hz h,fun _=>rfl⟩
theorem last_row {E:TypeId} {F:List (List Int)} {vs:List Value} {ms:List Seg} (h:RowsI E F vs ms) {v:Value} (U:0<F.length) (hv:vs.getLast? =some v):∃ A c,v= .slice A (F.getD (F.length - 1) []).length c∧(0<(F.getD (F.length - 1) []).length→∃ J sp,A=some ⟨J,0,none⟩∧(J,blk (bF (F.getD (F.length - 1) [])++sp) E)∈ms.flatten):=by
 have O:=h.lv
 have hi:F.length - 1<F.length:=aA
 have e1:F.getD (F.length - 1) []=F[F.length - 1]:=by simp [List.getD_eq_getElem?_getD,hi]
 have e2 : v = vs[F.length - 1]'aA := by
  rw [List.getLast?_eq_getElem?,O,List.getElem?_eq_getElem aA] at hv;exact (Option.some.inj hv).symm
 have ho:=h.own _ hi
 rw [← e2,← e1] at ho;obtain ⟨A,c,rfl,_⟩:=ho.val
 refine ⟨A,c,rfl,fun hl=>?_⟩;obtain ⟨J,sp,rfl,hm⟩:=ho.at_ hl
 exact ⟨J,sp,rfl,List.mem_flatten.2 ⟨_,List.getElem_mem (by rw [h.lm];exact hi),by rw [hm];simp⟩⟩
theorem ro_in {S:Nat→Prop} {w0 w:World} {segs J:List Seg} {G:Seg} {b:Nat} {cs sp:List Value} {E:TypeId} (hp:Hp S w0 segs.flatten w) [p3:Pick segs G J] (hm:(b,blk (cs++sp) E)∈G):Ro (Fr w []) w (some ⟨b,0,none⟩) cs:=fun hne=>by
 have F:(b,blk (cs++sp) E)∈segs.flatten:=p3.perm.mem_iff.2 (List.mem_append_left _ hm)
 refine ⟨b,0,rfl,⟨hp.key_lt F,aN⟩,fun j v hj=>?_⟩;rw [hp.cell F];simpa using eF hj
theorem nJ {ms:List Seg} {m:Seg}:(m++ms.flatten).Perm (ms++[m]).flatten:=by
 rw [List.flatten_append];simpa using List.perm_append_comm
theorem fE_zeroM {n:Nat} {l:List Arc}:∀ {M:List Pr},(∀ p∈M,p∈prs n l)→fE (n:Int) M=0
 |[],_=>rfl
 |p::r,h=>by
  have h1:=i6 (h p aN)
  have h2:p.1<p.2:=by
   have:=h p aN
   unfold prs at this
   obtain ⟨_,h2⟩:=List.mem_filter.1 this
   obtain ⟨a,ha,hb⟩:=List.any_eq_true.1 h2
   simp only [Bool.and_eq_true,decide_eq_true_eq] at hb;obtain ⟨h3,rfl⟩:=hb
   unfold nH;simp only;omega
  unfold fE
  rw [if_neg aA,if_neg aA];exact fE_zeroM fun q hq=>h q (by simp [hq])
theorem blw_nn {n:Nat} {l:List Arc} {bs cs:List Int} {mv:Int} (F:PlOk n l bs cs mv):∀ {k:Nat},k<bs.length→0≤mZ bs k
 |0,_=>Int.le_refl _
 |k+1,h=>by
  have h1:=F.bnd k aA
  have h2:=blw_nn F (k:=k) aA
  show 0≤bs.getD k 0
  omega
theorem planned1_spec (N:Int) (A:Option Addr) (len cap b:Nat) (i:Int) (w:World) (h2:Ro (Fr w []) w (some ⟨b,0,none⟩) [.int .i64 N,.slice A len cap]):
    Meets Tryz.prog 81 ([.int .i64 i]++[.pointer (some ⟨b,0,none⟩)]) w [] (fun u m=>u= .bool (offV N i)∧m=[]):=by
 obtain ⟨b',o',e',J,F⟩:=h2 aN
 obtain ⟨rfl,rfl⟩:b=b'∧0=o' :=by cases e';exact ⟨rfl,rfl⟩
 refine bE Tryz.func81 rfl Tryz.ntmps81 rfl Owns.nil<|aG fun kh1=>aB 1 rfl<|aD kh1<|aG fun kh2=>aB 3 rfl<|d8 6 rfl (fun g6=>?_) (fun g6=>?_)
 ·refine aB 6 rfl<|aD kh2<|aY ?_
  exact bJ [] Tryz.results81 rfl aP ⟨by unfold offV;rw [decide_eq_true (.inl g6)],rfl⟩
 ·refine aB 1 rfl<|eA rfl rfl (aT eT rfl)<|eA rfl rfl (aH Tryz.isAgg3 rfl (rdS J (F 0 _ rfl)))<|aB 3 rfl<|aD kh2<|aY ?_
  exact bJ [] Tryz.results81 rfl aP ⟨by unfold offV;congr 1;apply decide_eq_decide.2;omega,rfl⟩
theorem planned_spec (N:Int) (A:Option Addr) (l:List Arc) (cap:Nat) (B:Option Addr) (bs:List Int) (bc:Nat) (C:Option Addr) (cs:List Int) (cc:Nat) (mv:Int) (w:World) (hr:Ro (Fr w []) w A (l.flatMap bZ)) (hl:l.length≤9223372036854775807) (hN:I64 N) (hok:∀ x∈l,eK x) (hB:Ro (Fr w []) w B (bF bs)) (aj:bs.length≤9223372036854775807) (hC:Ro (Fr w []) w C (bF cs)) (ad:cs.length≤9223372036854775807):
    Meets Tryz.prog 54 [.agg #[.int .i64 N,.slice A l.length cap],.slice B bs.length bc,.slice C cs.length cc,.int .i64 mv] w [] (fun u m=>u= .int .i64 (plE N l bs cs mv)∧m=[]):=by
 refine bE Tryz.func54 rfl Tryz.ntmps54 rfl Owns.nil<|aG fun kh1=>f_S (cT rfl rfl fun b4=>?_)
 refine aB 1 rfl<|aD kh1<|aS fun kh2=>aG fun kh3=>f_Q (aO (vs:=[_,_]) Tryz.isAgg24 Tryz.sizeOf24 rfl rfl ⟨(rdA rfl),(rdA rfl),trivial⟩) ?_
 refine f_S (aV Tryz.call20 rfl (fun w_ J=>f3 N A l cap w_ (hr.up0 J) hl hN hok) ?_);rintro _ _ ⟨rfl,rfl⟩;dsimp only [aK,aJ];refine aB 5 rfl<|aD kh3<|aG fun kh4=>aB 2 rfl<|aD kh4<|aX rfl (fun c20=>?_) (fun c20=>?_)
 ·refine aG fun ae=>aB 2 rfl<|aD ae<|aY<|cV ?_
  have e:plE N l bs cs mv=(cG N l).2:=by unfold plE;rw [if_pos (by simpa using c20)]
  exact bJ [] Tryz.results54 rfl aC ⟨by rw [e],rfl⟩
 ·have hg:(cG N l).2=0:=by simpa using c20
  refine bV kh2<|aS fun kh6=>aG fun kh7=>aB 1 rfl<|dU bX rfl<|aB 2 rfl<|d8 25 rfl (fun g25=>?_) (fun g25=>?_)
  ·refine aB 4 rfl<|aD kh7<|fI rfl<|aG fun kh8=>aB 1 rfl<|aD kh8<|aY<|cV ?_
   have e:plE N l bs cs mv=111:=by unfold plE;rw [if_neg (by rw [hg];simp),if_pos aA]
   exact bJ [] Tryz.results54 rfl aC ⟨by rw [e],rfl⟩
  ·refine aB 1 rfl<|eA rfl rfl (iH bX rfl)<|aB 2 rfl<|aD kh7<|aX rfl (fun c29=>?_) (fun c29=>?_)
   ·refine aG fun ac=>aB 1 rfl<|aD ac<|aY<|cV ?_
    have e:plE N l bs cs mv=111:=by unfold plE;rw [if_neg (by rw [hg];simp),if_pos aA]
    exact bJ [] Tryz.results54 rfl aC ⟨by rw [e],rfl⟩
   ·refine bV kh6<|aG fun kh10=>aB 1 rfl<|aD kh10<|aS fun kh11=>aG fun Z=>aB 1 rfl<|dU bX rfl<|aB 1 rfl<|aD Z ?_
    refine aR ?_;refine dA (α:=Nat) [2,3,4,30,31] (fun k=>[(32,.int .i64 (k:Int)),(11,.int .i64 (mZ bs k))]) (fun k=>[[(b4,blk [.int .i64 N,.slice A l.length cap] 24)]]) (fun k=>k≤bs.length∧∀ j (h:j<bs.length),j<k→mZ bs j<bs[j]∧bs[j]≤1024) (fun k=>bs.length - k) (0) ?_ ?_ ?_ ?_
    ·exact aF
    ·exact aC
    ·exact ⟨Nat.zero_le _,fun j _ h=>aA⟩
    ·rintro k ⟨ai,O⟩;refine aG fun kh13=>aB 1 rfl<|aD kh13<|aS fun kh14=>aX rfl (fun ah=>?_) (fun ah=>?_)
     ·have hk:k<bs.length:=aA
      obtain ⟨b1,o1,rfl,ab,ag⟩:=hB (fun e=>by have:=a7 bs;rw [e] at this;simp at this;omega)
      refine bV kh14<|aS fun kh15=>aR<|aG fun kh16=>f_Q (aL bX rfl rfl (o1+k))<|f_Q (aH Tryz.isAgg3 rfl (d3 (enc:=(.int .i64 ·)) ab ag hk))<|aB 1 rfl<|aD kh16<|aS fun kh17=>aG fun kh18=>?_
      refine aB 2 rfl ?_;refine f_S (aV Tryz.call69 rfl (fun w_ J=>nbounded_spec bs[k] (mZ bs k) w_) ?_);rintro _ _ ⟨rfl,rfl⟩;dsimp only [aK,aJ];refine aB 1 rfl<|aD kh18<|eO rfl (fun c39=>?_) (fun c39=>?_)
      ·have F:badB bs=true:=by
         rw [← Bool.not_eq_false,badB_no];intro h;have:=h k hk
         rw [bs_at hk] at this;simp at c39;omega
       refine aG fun Y=>aB 1 rfl<|aD Y<|aY<|cV<|fA<|cV<|cV<|fA<|cV ?_
       have e:plE N l bs cs mv=1:=by unfold plE;rw [if_neg (by rw [hg];simp),if_neg aA,if_pos F]
       exact bJ [] Tryz.results54 rfl aC ⟨by rw [e],rfl⟩
      ·refine bV kh17<|aI<|aB 2 rfl<|aZ<|dF<|bO kh15<|aI<|f_Q (a8 rfl rfl)<|aB 1 rfl<|aZ ?_
       refine f_reQ 11 rfl (v:= .int .i64 (mZ bs (k+1))) (by show _=Value.int .i64 (bs.getD k 0);rw [bs_at hk]) ?_
       refine cS (a6 (k+1) (by first|omega|(dsimp only;omega)|(simp;omega)) ⟨aA,fun j h hj=>by
         by_cases e:j=k
         ·subst e;simpa using c39
         ·exact O j h aA⟩ ?_ ?_ ?_)
       ·exact aF
       ·exact aF
       ·exact aC
     ·have F:badB bs=false:=badB_no.2 fun j hj=>by rw [bs_at hj];exact O j hj aA
      refine cN<|cO<|cO<|eC<|bO kh11<|aS fun kh20=>aR<|aG fun kh21=>aB 1 rfl<|dU bX rfl ?_
      refine aB 2 rfl<|aD kh21<|aX rfl (fun c42=>?_) (fun c42=>?_)
      ·refine aG fun U=>aB 1 rfl<|aD U<|aY<|fA<|cV ?_
       have e:plE N l bs cs mv=2:=by unfold plE;rw [if_neg (by rw [hg];simp),if_neg aA,if_neg (by rw [F];simp),if_pos aA]
       exact bJ [] Tryz.results54 rfl aC ⟨by rw [e],rfl⟩
      ·refine aG fun kh23=>aB 1 rfl<|f_Q (kT rfl rfl) ?_
       refine f_S (aV Tryz.call75 rfl (fun w_ J=>ContG_spec C cs cc (offV N) 81 [.pointer (some ⟨b4,0,none⟩)] w_ (hC.up0 J) ad Tryz.call81 (fun w' hs i hi=>planned1_spec N A l.length cap b4 i w' (oQ J hs))) ?_);rintro _ _ ⟨rfl,rfl⟩;dsimp only [aK,aJ];refine aB 1 rfl<|aD kh23<|eO rfl (fun c46=>?_) (fun c46=>?_)
       ·refine aG fun aa=>aB 1 rfl<|aD aa<|aY<|fA<|cV ?_
        have e:plE N l bs cs mv=5:=by unfold plE;rw [if_neg (by rw [hg];simp),if_neg aA,if_neg (by rw [F];simp),if_neg aA,if_pos c46]
        exact bJ [] Tryz.results54 rfl aC ⟨by rw [e],rfl⟩
       ·refine aG fun kh25=>aB 3 rfl<|d8 53 rfl (fun g53=>?_) (fun g53=>?_)
        ·refine aB 4 rfl<|aD kh25<|fI rfl<|aG fun kh26=>aB 1 rfl<|aD kh26<|aY<|fA<|cV ?_
         have e:plE N l bs cs mv=1:=by unfold plE;rw [if_neg (by rw [hg];simp),if_neg aA,if_neg (by rw [F];simp),if_neg aA,if_neg (by rw [c46];simp),if_pos aA]
         exact bJ [] Tryz.results54 rfl aC ⟨by rw [e],rfl⟩
        ·refine aB 4 rfl<|aD kh25<|aX rfl (fun c50=>?_) (fun c50=>?_)
         ·refine aG fun X=>aB 1 rfl<|aD X<|aY<|fA<|cV ?_
          have e:plE N l bs cs mv=1:=by unfold plE;rw [if_neg (by rw [hg];simp),if_neg aA,if_neg (by rw [F];simp),if_neg aA,if_neg (by rw [c46];simp),if_pos aA]
          exact bJ [] Tryz.results54 rfl aC ⟨by rw [e],rfl⟩
         ·refine dY<|dF<|bO kh20<|aG fun kh28=>aB 1 rfl<|aD kh28<|aY ?_
          have e:plE N l bs cs mv=0:=by unfold plE;rw [if_neg (by rw [hg];simp),if_neg aA,if_neg (by rw [F];simp),if_neg aA,if_neg (by rw [c46];simp),if_neg aA]
          exact bJ [] Tryz.results54 rfl aC ⟨by rw [e],rfl⟩
theorem lowest_spec (n:Nat) (A:Option Addr) (l:List Arc) (cap:Nat) (b:Int) (C:Option Addr) (cs:List Int) (cc:Nat) (mv:Int) (w:World) (hr:Ro (Fr w []) w A (l.flatMap bZ)) (hl:l.length≤9223372036854775807) (hN:I64 (n:Int)) (hok:∀ x∈l,eK x) (hC:Ro (Fr w []) w C (bF cs)) (bh:cs.length≤16384) (hg:(cG (n:Int) l).2=0) (hb:1≤b∧b≤1024) (bc:∀ v∈cs,0≤v∧v<(n:Int)) (az:0≤mv∧mv≤16384):
    Meets Tryz.prog 55 [.agg #[.int .i64 (n:Int),.slice A l.length cap],.int .i64 b,.slice C cs.length cc,.int .i64 mv] w [] (fun u own' =>∃ (L:List Int) (A' :Option Addr) (c' :Nat) (m' :Seg),u= .tuple #[.slice A' L.length c',.int .i64 0]∧own' =[m']∧Own 3 1 (.slice A' L.length c') L.length (bF L) m'∧LowN n l b cs mv L):=by
 obtain ⟨bi,bf,ac,ba⟩:=bS hg
 have ai:mkE (n:Int) l cs b=0:=by
   unfold mkE
   rw [if_neg (by rw [hg];simp),if_neg aA,if_neg aA,if_neg];rw [Bool.not_eq_true,List.any_eq_false];intro v hv;have:=bc v hv
   unfold offV;simp;omega
 refine bE Tryz.func55 rfl Tryz.ntmps55 rfl Owns.nil<|aG fun kh1=>f_S (cT rfl rfl fun b4=>?_)
 refine aB 2 rfl<|aD kh1<|aG fun kh2=>f_Q (aO (vs:=[_,_]) Tryz.isAgg24 Tryz.sizeOf24 rfl rfl ⟨(rdA rfl),(rdA rfl),trivial⟩)<|aB 2 rfl ?_
 refine f_S (aV Tryz.call82 rfl (fun U F=>Marks_spec (n:Int) A C l cap cs cc b U (hr.up0 F) hl hN hok (hC.up0 F) aA) ?_);rintro _ _ ⟨M,AM,cM,mM,rfl,rfl,a2,_,av⟩;obtain ⟨ae,Y⟩:=av ai
 rw [Int.toNat_natCast] at Y
 have X:∀ p∈M,p∈prs n l:=fun p hp=>by
   obtain ⟨v,_,C',ax,au⟩:=(Y p).1 hp
   exact (nc_sub ax).1 p au
 have bk:M.length≤8192:=Nat.le_trans (List.Nodup.length_le_of_subset (nodup_X ae) X) (Nat.le_trans (prs_few (raw_good ba)) ac)
 have Z:l8 (n:Int) l M=0:=by
   unfold l8
   rw [if_neg (by rw [hg];simp),if_neg aA];exact fE_zeroM X
 rw [ai];dsimp only [aK,aJ];refine aB 5 rfl<|aD kh2<|aS fun kh3=>aG fun kh4=>aB 2 rfl<|aD kh4<|dX rfl aN<|bV kh3<|aG fun kh5=>f_Q (aO (vs:=[_,_]) Tryz.isAgg24 Tryz.sizeOf24 rfl rfl ⟨(rdA rfl),(rdA rfl),trivial⟩) ?_
 refine aB 1 rfl ?_;refine f_S (aV Tryz.call83 rfl (fun U F=>Fragments_spec (n:Int) A AM l cap M M.length U (hr.up0 F) hl hN hok (eS (a2.seen F)) aA (fun p hp=>by have:=i6 (X p hp);unfold I64;omega)) ?_);rintro _ _ ⟨P,AP,cP,mP,rfl,rfl,ao,ap,_⟩;obtain ⟨p,rfl,hp⟩:=ap Z
 rw [Int.toNat_natCast] at hp;have bg:=hp.len
 have ag:=natN_right hp.tidy hp.len
 have al:=spE_oneN (bd:=b) hg ag hb
 obtain ⟨bn,rfl⟩:∃ bn:Nat,b=(bn:Int):=⟨b.toNat,aA⟩
 obtain ⟨am,aw,_⟩:=cut_holds (l:=l) ag aA aA ac (b:=bn) aA
 have ab:∀ y,(gK (cutL l (natN p) bn) y:Int)≤(bn:Int):=fun y=>by have:=aw y;omega
 have aj:=joinE_zeroM hg am hb ab
 rw [Z];dsimp only [aK,aJ];refine aB 5 rfl<|aD kh5<|aS fun kh6=>aG fun kh7=>aB 2 rfl<|aD kh7<|dX rfl aN<|bV kh6<|aS fun kh8=>aG fun kh9=>?_
 refine f_Q (aO (vs:=[_,_]) Tryz.isAgg24 Tryz.sizeOf24 rfl rfl ⟨(rdA rfl),(rdA rfl),trivial⟩)<|aB 2 rfl ?_
 refine f_S (aV Tryz.call84 rfl (fun U F=>CutUp_spec (n:Int) A AP l cap (natN p) cP (bn:Int) U (hr.up0 F) hl hN hok (eS (ao.seen F)) (by rw [natN_len];omega)) ?_);rintro _ _ ⟨Lc,Ac,ay,mc,rfl,rfl,ad,_,ar⟩;obtain rfl:=ar al
 rw [Int.toNat_natCast] at ad ⊢;have be:=(d6 am).2
 rw [al];dsimp only [aK,aJ];refine aB 5 rfl<|aD kh9<|aG fun kh10=>aB 2 rfl<|aD kh10<|dX rfl aN<|bV kh8<|aS fun kh11=>aG fun kh12=>f_Q (aO (vs:=[_,_]) Tryz.isAgg24 Tryz.sizeOf24 rfl rfl ⟨(rdA rfl),(rdA rfl),trivial⟩) ?_
 refine aB 2 rfl ?_;refine f_S (aV Tryz.call57 rfl (fun U F=>Join_spec (n:Int) A Ac l cap (cutL l (natN p) bn) ay (bn:Int) U (hr.up0 F) hl hN hok (eS (ad.seen F)) aA) ?_);rintro _ _ ⟨J,AJ,cJ,mJ,rfl,rfl,a1,_,aq⟩;obtain ⟨O,ak,ah⟩:=aq aj
 rw [Int.toNat_natCast] at O ak ah;have bj:=(d6 O.right).2
 have an:=imp_right hg O.right hb O.size az
 rw [aj];dsimp only [aK,aJ];refine aB 5 rfl<|aD kh12<|aG fun kh13=>aB 2 rfl<|aD kh13<|dX rfl aN<|bV kh11<|aG fun kh14=>f_Q (aO (vs:=[_,_]) Tryz.isAgg24 Tryz.sizeOf24 rfl rfl ⟨(rdA rfl),(rdA rfl),trivial⟩)<|aB 3 rfl ?_
 refine f_S (aV Tryz.call85 rfl (fun U F=>Improve_spec (n:Int) A AJ l cap J cJ (bn:Int) mv U (hr.up0 F) hl hN hok (eS (a1.seen F)) aA) ?_);rintro _ _ ⟨sI,mI,rfl,rfl,aa⟩;obtain ⟨AI,cI,rfl,_⟩:=aa.val
 rw [an.1];dsimp only [aK,aJ];refine aB 6 rfl<|aD kh14<|aG fun kh15=>aB 4 rfl<|aD kh15<|aY ?_
 exact cZ [mI] Tryz.results55 rfl rfl aC ⟨_,AI,cI,mI,rfl,rfl,aa,M,p,J,ae,Y,hp,by rw [Int.toNat_natCast];exact O,ak,by rw [Int.toNat_natCast];exact ah,rfl⟩
theorem Make_spec (N:Int) (A:Option Addr) (l:List Arc) (cap:Nat) (B:Option Addr) (bs:List Int) (bc:Nat) (C:Option Addr) (cs:List Int) (cc:Nat) (mv:Int) (w:World) (hr:Ro (Fr w []) w A (l.flatMap bZ)) (hl:l.length≤9223372036854775807) (hN:I64 N) (hok:∀ x∈l,eK x) (hB:Ro (Fr w []) w B (bF bs)) (bf:bs.length≤9223372036854775807) (hC:Ro (Fr w []) w C (bF cs)) (az:cs.length≤9223372036854775807) (bu:bs.length≤bc∧bc≤9223372036854775807):
    Meets Tryz.prog 18 [.agg #[.int .i64 N,.slice A l.length cap],.slice B bs.length bc,.slice C cs.length cc,.int .i64 mv] w [] (fun u own' =>∃ (X:List Int) (L:List (List Int)) (R:List Row) (Ab Ac:Option Addr) (O an:Nat) (mb Z:Seg) (ms:List Seg),u= .tuple #[.agg #[.slice Ab X.length O,.slice Ac R.length an],.int .i64 (plE N l bs cs mv)]∧own' =[mb,Z,ms.flatten]∧Own 3 1 (.slice Ab X.length O) X.length (bF X) mb∧Own 25 1 (.slice Ac R.length an) R.length (R.map fG) Z∧RowsI 3 L (R.map fG) ms∧bG R=L∧
      (plE N l bs cs mv≠0→X=[]∧L=[])∧(plE N l bs cs mv=0→X=bs∧L.length=bs.length∧MkTo N.toNat l bs cs mv L)):=by
 refine bE Tryz.func18 rfl Tryz.ntmps18 rfl Owns.nil<|aG fun kh1=>f_S (cT rfl rfl fun b4=>?_)
 refine f_S (cQ Tryz.zeroValue34 rfl fun b8=>?_);refine aB 1 rfl<|aD kh1<|aS fun kh2=>aG fun kh3=>f_Q (aO (vs:=[_,_]) Tryz.isAgg24 Tryz.sizeOf24 rfl rfl ⟨(rdA rfl),(rdA rfl),trivial⟩)<|aB 3 rfl ?_
 refine f_S (aV Tryz.call54 rfl (fun w_ U=>planned_spec N A l cap B bs bc C cs cc mv w_ (hr.up0 U) hl hN hok (hB.up0 U) bf (hC.up0 U) az) ?_);rintro _ _ ⟨rfl,rfl⟩;dsimp only [aK,aJ];refine aB 1 rfl<|aD kh3<|aG fun kh4=>aB 2 rfl<|aD kh4<|aX rfl (fun c22=>?_) (fun c22=>?_)
 ·
  refine aG fun a1=>f_Q (dL (cs:=[.slice none 0 0,.slice none 0 0]) st34 rfl rfl)<|aB 1 rfl<|f_Z (bP Tryz.sizeOf34 rfl rfl rfl rfl cF [.slice none 0 0,.slice none 0 0] rfl ?_)
  refine aB 1 rfl<|aD a1<|aY<|cV ?_
  exact gW (vs:=[.slice none 0 0,.slice none 0 0]) [[],[],([]:List Seg).flatten] Tryz.results18 rfl Tryz.isAgg34 Tryz.sizeOf34 rfl ⟨(rdA rfl),(rdA rfl),trivial⟩ rfl (by rw [List.flatten_nil];exact aC) ⟨[],[],[],none,none,0,0,[],[],[],rfl,rfl,Own.nil _ _,Own.nil _ _,⟨rfl,rfl,fun i hi=>by simp at hi⟩,rfl,fun _=>⟨rfl,rfl⟩,fun h=>absurd h (by simpa using c22)⟩
 ·
  have hz:plE N l bs cs mv=0:=by simpa using c22
  obtain ⟨n,bk,F⟩:=plE_zero hz
  subst bk;have bj:=F.many
  have bB:=bS F.g
  have h0:0<bs.length:=aA
  obtain ⟨b1,o1,rfl,aj,aq⟩:=hB (fun e=>by have:=a7 bs;rw [e] at this;simp at this;omega)
  refine bV kh2<|aS fun kh6=>c7 [[(b4,blk [.int .i64 (n:Int),.slice A l.length cap] 24)],[(b8,blk [.slice none 0 0,.slice none 0 0] 34)]] rfl<|f_T 0 rfl (aO (vs:=[_,_]) Tryz.isAgg24 Tryz.sizeOf24 rfl rfl ⟨(rdA rfl),(rdA rfl),trivial⟩)<|f_T 1 rfl (aU rfl)<|f_T 2 rfl (aL bX rfl rfl (o1+0))<|f_T 3 rfl (aH Tryz.isAgg3 rfl (d3 (enc:=(.int .i64 ·)) aj aq h0))<|f_T 4 rfl (aU rfl)<|f_T 5 rfl (aU rfl) ?_
  refine f_O 6 rfl (aV Tryz.call55 rfl (fun w_ U=>lowest_spec n A l cap bs[0] C cs cc mv w_ (hr.up0 U) hl hN hok (hC.up0 U) F.few F.g (by have:=F.first;rw [bs_at h0] at this;exact this) F.rng F.moves) ?_);rintro _ _ ⟨L0,A0,c0,m0,rfl,rfl,a2,ap⟩;dsimp only [aK,aJ];refine ⟨aC,?_⟩;refine f_T 7 rfl (aU rfl)<|f_T 8 rfl (eU rfl rfl)<|f_T 9 rfl (eU rfl rfl)<|f_O 10 rfl ((bI rfl).does ⟨aC,?_⟩)
  refine f_O 11 rfl ((bI rfl).does ⟨aC,?_⟩);refine cU aW<|bO kh6<|aS fun kh7=>aG fun kh8=>aB 2 rfl<|aD kh8<|dX rfl aN<|bV kh7<|aG fun kh9=>aB 1 rfl ?_
  refine f_S (aV Tryz.call56 rfl (fun w_ U=>oM (some ⟨b1,o1,none⟩) bs.length (bF bs) bc w_ (hB.up0 U) (fun e=>by cases e) (by rw [a7];omega) (ints_oneG _) aA) ?_);rintro bK _ ⟨ai,rfl,ac⟩;obtain ⟨Ab,O,rfl,_⟩:=ac.val
  dsimp only [aK,aJ];refine aB 1 rfl<|f_S (bQ el32 aA rfl rfl rfl fun b42=>?_)
  refine f_Q (dL (cs:=[.slice Ab bs.length O,.slice (some ⟨b42,0,none⟩) 1 1]) st34 rfl rfl)<|f_S (cQ Tryz.zeroValue34 rfl fun b13=>?_)
  refine f_Z (bP Tryz.sizeOf34 rfl rfl rfl rfl cF [.slice Ab bs.length O,.slice (some ⟨b42,0,none⟩) 1 1] rfl ?_);refine aD kh9<|aS fun kh10=>aG fun au=>aB 1 rfl<|f_Q (f7 bX rfl rfl rfl rfl (fun h=>by cases h) 1 _ _ (.inr ⟨_,_,rfl,aA⟩) (.inl ⟨rfl,rfl⟩) (.inl ⟨rfl,rfl⟩) ⟨aA,aA,aA⟩ (.slice (if bc=1 then some ⟨b1,o1,none⟩ else some ⟨b1,o1+1,none⟩) (bs.length - 1) (bc - 1)) (by congr 1)) ?_
  refine dU bX rfl<|aB 1 rfl<|aD au<|aR ?_
  refine dA (α:=Nat×List (List Int)×List Value×List Seg×Value×Value×Seg) [4,8,13,45,46] (fun ⟨i,L,vs,ms,vl,cv,Z⟩=>[(47,.int .i64 (i:Int)),(11,vl)]) (fun ⟨i,L,vs,ms,vl,cv,Z⟩=>[[(b13,blk [.slice Ab bs.length O,cv] 34)],ai,Z,ms.flatten,[(b4,blk [.int .i64 (n:Int),.slice A l.length cap] 24)],[(b8,blk [.slice none 0 0,.slice none 0 0] 34)]]) (fun ⟨i,L,vs,ms,vl,cv,Z⟩=>i+1≤bs.length∧L.length=i+1∧RowsI 3 L vs ms∧vs.getLast? =some vl∧Own 25 1 cv L.length vs Z∧MkTo n l bs cs mv L) (fun ⟨i,L,vs,ms,vl,cv,Z⟩=>bs.length - i) (0,[L0],[.slice A0 L0.length c0],[m0],.slice A0 L0.length c0,.slice (some ⟨b42,0,none⟩) 1 1,[(b42,blk [.slice A0 L0.length c0] 25)]) ?_ ?_ ?_ ?_
  · exact aF
  · dsimp only
    rw [show ([m0]:List Seg).flatten=m0 from by simp];exact aC
  · exact ⟨aA,rfl,RowsI.one a2,rfl,Own.mk rfl aA,by rw [bs_at h0];exact ap,fun k hk=>by simp at hk⟩
  ·
   rintro ⟨i,L,vs,ms,vl,cv,Z⟩ ⟨bw,al,ab,bh,ag,ae⟩;obtain ⟨Ac,aa,rfl,bt⟩:=ag.val
   refine aG fun kh12=>aB 1 rfl<|aD kh12<|aS fun kh13=>aX rfl (fun bi=>?_) (fun bi=>?_)
   ·
    have hi:i+1<bs.length:=aA
    obtain ⟨Al,cr,av,ad⟩:=last_row ab aA bh
    rw [show L.length - 1=i by omega] at av ad;subst av;have ah:=ae.right F (k:=i) aA
    have bv:=(d6 ah.1).2
    obtain ⟨br,bD,rfl,be⟩:=ad aA
    have ax:=F.bnd (i+1) hi
    have ar:mZ bs (i+1)=bs.getD i 0:=rfl
    have bC:=F.bnd i aA
    have ba:0≤mZ bs i:=by
      cases i with
      |zero=>exact Int.le_refl _
      |succ j=>have h1:=F.bnd j aA;have h2:mZ bs (j+1)=bs.getD j 0:=rfl;have h3:0≤mZ bs j:=blw_nn F aA;omega
    rw [ar] at ax;have ao:=joinE_zeroM (bd:=bs[i+1]) F.g ah.1 (by rw [← bs_at hi];omega) (fun y=>by have:=ah.2 y;rw [← bs_at hi];omega)
    refine bV kh13<|aS fun kh14=>aR<|aG fun kh15=>f_Q (o_idx bX (show _=some (Value.slice (some ⟨b1,o1+1,none⟩) (bs.length - 1) (bc - 1)) from by show some (Value.slice (if bc=1 then _ else _) _ _)=_;rw [if_neg aA]) rfl (o1+1+i) ⟨aA,aA,aA⟩) ?_
    refine f_Q (aH Tryz.isAgg3 rfl (show Rd _ _ _ _ _ (.int .i64 bs[i+1]) by rw [show o1+1+i=o1+(i+1) by omega];exact d3 (enc:=(.int .i64 ·)) aj aq hi)) ?_;refine aB 1 rfl<|aD kh15<|aS fun kh16=>aG fun kh17=>f_Q (aO (vs:=[_,_]) Tryz.isAgg24 Tryz.sizeOf24 rfl rfl ⟨(rdA rfl),(rdA rfl),trivial⟩)<|aB 2 rfl ?_
    refine f_S (aV Tryz.call57 rfl (fun w_ U=>Join_spec (n:Int) A (some ⟨br,0,none⟩) l cap (L.getD i []) cr bs[i+1] w_ (hr.up0 U) hl hN hok (ro_in U (G:=ms.flatten) be) aA) ?_);rintro _ _ ⟨J,AJ,cJ,mJ,rfl,rfl,aw,_,bg⟩;obtain hJ:=bg ao
    rw [Int.toNat_natCast] at hJ;rw [ao];dsimp only [aK,aJ];refine aB 5 rfl<|aD kh17<|aG fun kh18=>aB 2 rfl<|aD kh18<|dX rfl aN<|bV kh16<|aI<|cL jD rfl<|cX Tryz.isAgg32 rfl (rdA rfl) ?_
    refine aB 1 rfl<|f_S (bQ el32 aA rfl rfl rfl fun b65=>?_)
    refine f_S (dE el32 rfl rfl ag (ys:=[.slice AJ J.length cJ]) ⟨(rdA rfl),trivial⟩ rfl rfl aA aA fun v66 bp am=>?_);obtain ⟨bq,ay,rfl,_⟩:=am.val
    refine cL jD rfl<|f_Z (bU Tryz.sizeOf32 rfl rfl rfl rfl cF [.slice Ab bs.length O,.slice bq (L.length+1) ay] rfl ?_)
    refine aZ<|dF<|bO kh14<|aI<|f_Q (a8 rfl rfl)<|aB 1 rfl<|aZ<|f9 (Sub.joinF (m:=mJ) (G' :=ms.flatten) nJ) ?_
    refine cS (a6 (i+1,L++[J],vs++[.slice AJ J.length cJ],ms++[mJ],.slice AJ J.length cJ,_,bp) (by first|omega|(dsimp only;omega)|(simp;omega)) ⟨aA,by simp [al],RowsI.snoc ab aw,aN,by rw [List.length_append];exact am,ae.snoc aA (by rw [show L.length - 1=i by omega,al,bs_at hi];exact hJ)⟩ ?_ ?_ ?_)
    · exact aF
    · exact aF
    · exact aC
   ·
    obtain rfl:i=bs.length - 1:=aA
    obtain ⟨R,rfl,ak⟩:=RowsI.rows ab
    have Y:R.length=L.length:=by rw [← ak,d5]
    refine cN<|cO<|cO<|eC<|bO kh10<|aG fun kh19=>f_Q (aO (vs:=[.slice Ab bs.length O,.slice Ac L.length aa]) Tryz.isAgg34 Tryz.sizeOf34 rfl rfl ⟨(rdA rfl),(rdA rfl),trivial⟩)<|f_Z (bP Tryz.sizeOf34 rfl rfl rfl rfl cF [.slice Ab bs.length O,.slice Ac L.length aa] rfl ?_)
    refine aB 1 rfl<|aD kh19<|aY ?_
    exact gW (vs:=[.slice Ab bs.length O,.slice Ac L.length aa]) [ai,Z,ms.flatten] Tryz.results18 rfl Tryz.isAgg34 Tryz.sizeOf34 rfl ⟨(rdA rfl),(rdA rfl),trivial⟩ rfl aC ⟨bs,L,R,Ab,Ac,O,aa,ai,Z,ms,by rw [hz,Y],rfl,ac,by rw [Y];exact ag,ab,ak,fun h=>absurd hz h,fun _=>⟨rfl,aA,by rw [Int.toNat_natCast];exact ae⟩⟩
end Go.Proofs.YthpkelafioikaaaGreat
