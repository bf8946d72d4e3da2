import Derived.Test.YthpkelafioikaaaGreatFlyRun
import Derived.Test.YthpkelafioikaaaGreatAll8
import Derived.Test.YthpkelafioikaaaGreatAll1
import Derived.Test.YthpkelafioikaaaGreatAll0
import Derived.Test.YthpkelafioikaaaGreatAll2
import Derived.Test.YthpkelafioikaaaGreatFlyMap
import Derived.Test.YthpkelafioikaaaGreatAll3
import Derived.Test.YthpkelafioikaaaGreatAll6
namespace Go.Proofs.YthpkelafioikaaaGreat
open Go Go.RowKit Fly
set_option maxRecDepth 100000
set_option maxHeartbeats 4000000
set_option linter.all false
abbrev f8 (l:List Bool):List Value:=l.map .bool
theorem boolsG_set (l:List Bool) (i:Nat) (b:Bool):(f8 l).set i (.bool b)=f8 (l.set i b):=by simp [f8,List.map_set]
theorem boolsG_at {l:List Bool} {i:Nat} (h:i<l.length):(f8 l)[i]? =some (.bool (l.getD i false)):=by simp [List.getD_eq_getElem?_getD,h]
abbrev arSegs (n c F bo J U O:Nat) (b:List Bool) (vs:List Value) (G:Seg):List Seg:=
 [[(O,blk [.slice (some ⟨F,0,none⟩) n n] 37)],[(U,blk [.int .i64 (c:Int)] 3)],[(J,blk [.slice (some ⟨bo,0,none⟩) n n] 32)],[(F,blk (f8 b) 4)],[(bo,blk vs 25)],G]
def arMay (F:BSt) (ys:List Int) (y:Int):Prop:=∃ k,∃ h:k<F.1.length,ys=F.1.take k∧y=F.1[k]
def arFin (F:BSt) (n c J bo O X U:Nat) (vs:List Value) (G:Seg) (ys:List Int) (o:List Seg):Prop:=ys=F.1∧o=arSegs n c J bo O X U F.2 vs G
def arStp (F:BSt) (n c J bo O X U:Nat) (vs:List Value) (G:Seg) (ys:List Int) (o:List Seg):Prop:=∃ k,k<F.1.length∧ys=F.1.take (k+1)∧∃ b',b'.length=n∧o=arSegs n c J bo O X U b' vs G
theorem drop_cons_of {α:Type} {l:List α} {k:Nat} (h:k<l.length):l.drop k=l[k]::l.drop (k+1):=(List.getElem_cons_drop h).symm
theorem row_blk {E:TypeId} {F:List (List Int)} {vs:List Value} {ms:List Seg} (O:RowsI E F vs ms) {i:Nat} (hi:i<F.length):∃ A c,vs[i]? =some (.slice A F[i].length c)∧(0<F[i].length→∃ J sp,A=some ⟨J,0,none⟩∧(J,blk (a8 F[i]++sp) E)∈ms.flatten):=by
 have ho:=O.own i hi
 obtain ⟨A,c,e,_⟩:=ho.val
 rw [e] at ho;refine ⟨A,c,by rw [List.getElem?_eq_getElem (by rw [O.lv];exact hi),e],fun hl=>?_⟩;obtain ⟨J,sp,rfl,hm⟩:=ho.at_ hl
 exact ⟨J,sp,rfl,List.mem_flatten.2 ⟨_,List.getElem_mem (by rw [O.lm];exact hi),by rw [hm];simp⟩⟩
theorem around_spec (n bo F:Nat) (c:Int) (w:World):
    Meets Tryz.prog 169 [.slice (some ⟨bo,0,none⟩) n n,.int .i64 c,.slice (some ⟨F,0,none⟩) n n] w [] (fun u own' =>∃ J O U,u= .func (.func 188) #[] #[.pointer (some ⟨U,0,none⟩),.pointer (some ⟨O,0,none⟩),.pointer (some ⟨J,0,none⟩)]∧own' =[[(U,blk [.slice (some ⟨F,0,none⟩) n n] 37)],[(O,blk [.int .i64 c] 3)],[(J,blk [.slice (some ⟨bo,0,none⟩) n n] 32)]]):=by
 refine bG Tryz.func169 rfl Tryz.ntmps169 rfl Owns.nil<|aG fun kh1=>f_S (cZ rfl rfl fun J=>?_)
 refine f_S (cZ rfl rfl fun O=>?_);refine f_S (cZ rfl rfl fun U=>?_);refine aB 1 rfl<|aD kh1<|aG fun kh2=>f_Q (mH rfl rfl)<|aB 1 rfl<|aD kh2<|aZ ?_
 exact bO [[(U,blk [.slice (some ⟨F,0,none⟩) n n] 37)],[(O,blk [.int .i64 c] 3)],[(J,blk [.slice (some ⟨bo,0,none⟩) n n] 32)]] Tryz.results169 rfl aC ⟨J,O,U,rfl,rfl⟩
theorem q8 (n c O bo b3 b4 b5:Nat) (l:List Arc) (b0:List Bool) (vs:List Value) (ms:List Seg) (m0:Seg) (w:World) (bD:b0.length=n) (hc:c<n) (hn:n≤1024) (hR:RowsI 3 (nrows n l) vs ms) (al:∀ v,v<n→∀ u∈dS (v:Int) l,0≤u∧u<(n:Int)) (cm:∀ v:Nat,(dS (v:Int) l).length≤8192):
    IterAt Tryz.prog 188 [.pointer (some ⟨b5,0,none⟩),.pointer (some ⟨b4,0,none⟩),.pointer (some ⟨b3,0,none⟩)] (arSegs n c O bo b3 b4 b5 b0 vs ms.flatten) (fun y:Int=> .int .i64 y) (arMay (bfs n (fun v:Nat=>dS (v:Int) l) c b0)) (arFin (bfs n (fun v:Nat=>dS (v:Int) l) c b0) n c O bo b3 b4 b5 vs ms.flatten) (arStp (bfs n (fun v:Nat=>dS (v:Int) l) c b0) n c O bo b3 b4 b5 vs ms.flatten) m0 w:=by
 intro l_ J Jx bY bt hY;have cK:vs.length=n:=by have:=hR.lv;rwa [nrows_len] at this
 have bW:BInv n (fO c b0):=BInv.start bD hc
 refine r_enter Tryz.func188 rfl Tryz.ntmps188 rfl bt ?_;refine dW fun K1 cv=>?_;refine cA ?_;refine aN rfl rfl rfl rfl (aH Tryz.isAgg37 rfl (rdA rfl)) ?_;refine aN rfl rfl rfl rfl (aH Tryz.isAgg3 rfl (rdA rfl)) ?_;refine aN rfl rfl rfl rfl (aM n4 rfl rfl (c)) ?_;refine kW rfl rfl (Does.toR rfl (bQ Tryz.sizeOf4 rfl rfl rfl rfl (by simp [f8];omega) (f8 (b0.set c true)) (boolsG_set ..) ?_));refine dM ?_;refine eB (cv _ _ _ ?_);refine dW fun K2 cg=>?_;refine cA ?_;refine aN rfl rfl rfl rfl (aH Tryz.isAgg3 rfl (rdA rfl)) ?_;refine fS rfl rfl rfl (Does.toR rfl (bX eO aA rfl rfl rfl fun bg=>?_));refine aN rfl rfl rfl rfl (bI rfl) ?_;refine dM ?_;refine eB (cg _ _ _ ?_);refine f9 ?_;refine r_loop (α:=Nat×Value×Seg×Seg) (fun ⟨k,qv,qm,mJ⟩=>[]) [0,1,3] (fun ⟨k,qv,qm,mJ⟩=>[(5,qv)]) (fun ⟨k,qv,qm,mJ⟩=>[[(b5,blk [.slice (some ⟨O,0,none⟩) n n] 37)],[(b4,blk [.int .i64 (c:Int)] 3)],[(b3,blk [.slice (some ⟨bo,0,none⟩) n n] 32)],[(O,blk (f8 (bgo (fun v:Nat=>dS (v:Int) l) (fO c b0) k).2) 4)],[(bo,blk vs 25)],ms.flatten,qm,mJ]) (fun ⟨k,qv,qm,mJ⟩=>k≤(bgo (fun v:Nat=>dS (v:Int) l) (fO c b0) k).1.length∧OwnQ 3 qv (a8 ((bgo (fun v:Nat=>dS (v:Int) l) (fO c b0) k).1.drop k)) qm∧J ((bfs n (fun v:Nat=>dS (v:Int) l) c b0).1.take k) mJ) (fun ⟨k,qv,qm,mJ⟩=>n - k) (0,.slice (some ⟨bg,0,none⟩) 1 1,[(bg,blk [.int .i64 (c:Int)] 3)],m0) rfl ?_ ?_ ?_ ?_
 ·exact aF
 ·exact aC
 ·exact ⟨Nat.zero_le _,OwnQ.one _ _ _,by rw [List.take_zero];exact bY⟩
 ·rintro ⟨k,qv,qm,mJ⟩ ⟨cy,hQ,hJ⟩;have hI:=BInv.go al bW k
  have cq:=hI.out
  obtain ⟨X,ac⟩:∃ X,X=bgo (fun v:Nat=>dS (v:Int) l) (fO c b0) k:=⟨_,rfl⟩
  dsimp only;rw [← ac] at cy hQ hI cq ⊢;have cj:=hQ
  have bK:=a7 (X.1.drop k)
  rw [List.length_drop] at bK;obtain ⟨bw,ow,cw,pre,sp,rfl,rfl,cT,c3,cW,b6⟩:=hQ
  refine dW fun K3 bC=>?_;refine dW fun K4 b2=>?_;refine cA ?_;refine aN rfl rfl rfl rfl (aR rfl) ?_;refine aN rfl rfl rfl rfl (iZ bU rfl) ?_;refine aN rfl rfl rfl rfl (o_gtr rfl rfl) ?_;refine dM ?_;refine eB (b2 _ _ _ ?_);refine kM rfl (fun cz=>?_) (fun cz=>?_)
  ·have Y:k<X.1.length:=aA
   have ai:=b6 aA
   obtain ⟨v,hv⟩:∃ v,v=X.1[k]:=⟨_,rfl⟩
   have bv:X.1.drop k=v::X.1.drop (k+1):=by rw [hv];exact drop_cons_of Y
   have b1:=hI.rng _ (List.getElem_mem Y)
   rw [← hv] at b1;obtain ⟨F,rfl⟩:∃ F:Nat,v=(F:Int):=⟨v.toNat,aA⟩
   have ax:F<n:=aA
   obtain ⟨bj,cu⟩:=bgo_get (n:=n) (rows:=(fun v:Nat=>dS (v:Int) l)) (s:=fO c b0) (k:=k) aA (by rw [← ac];exact Y)
   have av:k<(bfs n (fun v:Nat=>dS (v:Int) l) c b0).1.length:=bj
   have am:(bfs n (fun v:Nat=>dS (v:Int) l) c b0).1[k]=(F:Int):=by rw [hv];refine cu.trans ?_;simp only [ac]
   have ay:(bfs n (fun v:Nat=>dS (v:Int) l) c b0).1.take k++[(F:Int)]=(bfs n (fun v:Nat=>dS (v:Int) l) c b0).1.take (k+1):=by rw [List.take_succ_eq_append_getElem av,am]
   refine iX ?_;refine eB (bC _ _ _ ?_);refine dW fun K5 bM=>?_;refine f9 ?_;refine dW fun K6 b9=>?_;refine dW fun K7 cf=>?_;refine cA ?_;refine aN rfl rfl rfl rfl (aR rfl) ?_;refine aN rfl rfl rfl rfl (aR rfl) ?_;refine aN rfl rfl rfl rfl (aM bU rfl rfl (ow)) ?_;refine aN rfl rfl rfl rfl (aH Tryz.isAgg3 rfl (rdA (v:= .int .i64 (F:Int)) (by rw [← ai,bv];simp [a8]))) ?_;refine fS rfl rfl rfl (o_yield [mJ] _ rfl rfl (by repeat (first|exact Sub.refl|refine aL ?_)) (fun w_ hp_=>hY _ (F:Int) w_ mJ hJ ⟨k,av,rfl,am.symm⟩ hp_.owns (fun k hk=>hp_.fz k hk)) ?_);rintro v22 _ ⟨m2,rfl,bR⟩
   obtain ⟨bb,rfl,bf⟩:∃ bb,v22= .bool bb∧((bb=true∧J ((bfs n (fun v:Nat=>dS (v:Int) l) c b0).1.take k++[(F:Int)]) m2)∨(bb=false∧Jx ((bfs n (fun v:Nat=>dS (v:Int) l) c b0).1.take k++[(F:Int)]) m2)):=by
     rcases bR with ⟨rfl,h⟩|⟨rfl,h⟩
     ·exact ⟨_,rfl,.inl ⟨rfl,h⟩⟩
     ·exact ⟨_,rfl,.inr ⟨rfl,h⟩⟩
   dsimp only [aK,aJ];refine aN rfl rfl rfl rfl (o_not rfl) ?_;refine dM ?_;refine eB (cf _ _ _ ?_);refine r_condB rfl (fun ad=>?_) (fun ad=>?_)
   ·refine nL ?_;refine r_tr ?_;refine r_br ?_;refine r_tr ?_;refine r_tr ?_;refine r_br ?_;have bc:Jx _ m2:=(bf.resolve_left (fun h=>by rw [h.1] at ad;cases ad)).2
    exact r_fin0 [m2,[(b5,blk [.slice (some ⟨O,0,none⟩) n n] 37)],[(b4,blk [.int .i64 (c:Int)] 3)],[(b3,blk [.slice (some ⟨bo,0,none⟩) n n] 32)],[(O,blk (f8 X.2) 4)],[(bo,blk vs 25)],ms.flatten] Tryz.results188 aC ⟨rfl,m2,_,rfl,.inr ⟨_,⟨k,av,ay,X.2,hI.len,rfl⟩,bc⟩⟩
   ·refine iX ?_;refine eB (b9 _ _ _ ?_);refine dW fun K8 ct=>?_;have cn:J _ m2:=(bf.resolve_right (fun h=>by rw [h.1] at ad;cases ad)).2
    obtain ⟨Ar,cr,bB,ak⟩:=row_blk hR (i:=F) (by rw [nrows_len];exact ax)
    rw [nrows_get] at bB ak;have cI:=cm F
    refine r_old ?_;refine h9 rfl aU<|gH Tryz.isAgg32 rfl (rdA rfl)<|dN 1 rfl<|dG (aM bU rfl rfl (ow))<|dG (aH Tryz.isAgg3 rfl (rdA (v:= .int .i64 (F:Int)) (by rw [← ai,bv];simp [a8]))) ?_
    refine dG (aM g5 rfl rfl (F))<|dG (aH Tryz.isAgg25 rfl (rdA bB))<|dG (iZ bU rfl)<|dN 1 rfl<|eK ?_
    refine r_new ?_;refine eB (ct _ _ _ ?_);refine f9 ?_;refine r_loop (α:=Nat×BSt×Value×Seg) (fun ⟨j,U,Z,aa⟩=>[]) [0,1,3,29,30] (fun ⟨j,U,Z,aa⟩=>[(31,.int .i64 (j:Int)),(5,Z)]) (fun ⟨j,U,Z,aa⟩=>[[(b5,blk [.slice (some ⟨O,0,none⟩) n n] 37)],[(b4,blk [.int .i64 (c:Int)] 3)],[(b3,blk [.slice (some ⟨bo,0,none⟩) n n] 32)],[(O,blk (f8 U.2) 4)],[(bo,blk vs 25)],ms.flatten,aa,m2]) (fun ⟨j,U,Z,aa⟩=>j≤(dS (F:Int) l).length∧U=i6 ((dS (F:Int) l).take j) X∧BInv n U∧X.1.length≤U.1.length∧OwnQ 3 Z (a8 (U.1.drop k)) aa) (fun ⟨j,U,Z,aa⟩=>(dS (F:Int) l).length - j) (0,X,.slice (some ⟨bw,ow,none⟩) (a8 (X.1.drop k)).length cw,[(bw,blk (pre++(a8 (X.1.drop k)++sp)) 3)]) rfl ?_ ?_ ?_ ?_
    ·exact aF
    ·exact aC
    ·exact ⟨Nat.zero_le _,rfl,hI,Nat.le_refl _,cj⟩
    ·rintro ⟨j,U,Z,aa⟩ ⟨cM,ag,ae,ci,ah⟩;have cJ:=ae.out
     refine r_envC (e:=[(31,_),(5,_),(0,_),(1,_),(3,_),(29,_),(30,_)]) aF ?_;refine dW fun K9 b8=>?_;refine cA ?_;refine aN rfl rfl rfl rfl (o_lss rfl rfl) ?_;refine dM ?_;refine eB (b8 _ _ _ ?_);refine dW fun c2 bi=>?_;refine kM rfl (fun b7=>?_) (fun b7=>?_)
     ·refine iX ?_;refine eB (bi _ _ _ ?_);refine dW fun c4 an=>?_;refine f9 ?_;refine dW fun c0 aw=>?_;refine cA ?_;have hj:j<(dS (F:Int) l).length:=aA
      obtain ⟨br,cP,rfl,co⟩:=ak aA
      have ce:=al F ax _ (List.getElem_mem hj)
      obtain ⟨un,ap⟩:∃ un:Nat,(dS (F:Int) l)[j]=(un:Int):=⟨((dS (F:Int) l)[j]).toNat,aA⟩
      refine aN rfl rfl rfl rfl (aM bU rfl rfl (j)) ?_;refine aN rfl rfl rfl rfl (aH Tryz.isAgg3 rfl (rdG (v:= .int .i64 ((un:Nat):Int)) co (d7 (by rw [d9 hj,ap])))) ?_;refine aN rfl rfl rfl rfl (bI rfl) ?_;refine dM ?_;refine eB (aw _ _ _ ?_);refine dW fun cY ba=>?_;refine cA ?_;refine aN rfl rfl rfl rfl (aH Tryz.isAgg37 rfl (rdA rfl)) ?_;refine aN rfl rfl rfl rfl (aR rfl) ?_;refine aN rfl rfl rfl rfl (aM n4 rfl rfl (un)) ?_;refine aN rfl rfl rfl rfl (aH Tryz.isAgg4 rfl (rdA (boolsG_at (by rw [ae.len];omega)))) ?_;refine aN rfl rfl rfl rfl (o_not rfl) ?_;refine dM ?_;refine eB (ba _ _ _ ?_);refine r_condB rfl (fun au=>?_) (fun au=>?_)
      ·have ar:U.2.getD un false=false:=by simpa using au
       have a1:(U.1++[((un:Nat):Int)],U.2.set un true)=i6 ((dS (F:Int) l).take (j+1)) X:=by rw [q6 hj,← ag,jL,ap,Int.toNat_natCast,if_neg (by rw [ar];simp)]
       refine dW fun cR bu=>?_;refine cA ?_;refine aN rfl rfl rfl rfl (aH Tryz.isAgg37 rfl (rdA rfl)) ?_;refine aN rfl rfl rfl rfl (aR rfl) ?_;refine aN rfl rfl rfl rfl (aM n4 rfl rfl (un)) ?_;refine kW rfl rfl (Does.toR rfl (bQ Tryz.sizeOf4 rfl rfl rfl rfl (by have:=ae.len;simp [f8];omega) (f8 (U.2.set un true)) (boolsG_set ..) ?_));refine dM ?_;refine eB (bu _ _ _ ?_);refine cA ?_;refine aN rfl rfl rfl rfl (aR rfl) ?_;refine aN rfl rfl rfl rfl (aR rfl) ?_;refine fS rfl rfl rfl (Does.toR rfl (bX eO aA rfl rfl rfl fun c1=>?_));refine fS rfl rfl rfl (Does.toR rfl (o_appendO eO rfl rfl ah (ys:=[.int .i64 ((un:Nat):Int)]) ⟨(rdA rfl),trivial⟩ rfl aA rfl (by rw [a7,List.length_drop];omega) (by rw [a7,List.length_drop];omega) fun v46 cd bE=>?_));refine aN rfl rfl rfl rfl (bI rfl) ?_;refine dM ?_;refine r_bn ?_;refine eB (an _ _ _ ?_);refine cA ?_;refine aN rfl rfl rfl rfl (bF rfl rfl) ?_;refine aN rfl rfl rfl rfl (aR rfl) ?_;refine dM ?_;refine eB (lP (j+1,(U.1++[((un:Nat):Int)],U.2.set un true),v46,cd) (by first|omega|(dsimp only;omega)|(simp;omega)) rfl ⟨aA,a1,by rw [a1,q6 hj,← ag];exact ae.push1 ce,by simp;omega,by rw [List.drop_append_of_le_length aA,eL];exact bE⟩ ?_ ?_ ?_)
       ·exact aF
       ·exact aF
       ·exact aC
      ·have ar:U.2.getD un false=true:=by simpa using au
       refine iX ?_;refine r_bn ?_;refine eB (an _ _ _ ?_);refine cA ?_;refine aN rfl rfl rfl rfl (bF rfl rfl) ?_;refine aN rfl rfl rfl rfl (aR rfl) ?_;refine dM ?_;refine eB (lP (j+1,U,Z,aa) (by first|omega|(dsimp only;omega)|(simp;omega)) rfl ⟨aA,by rw [q6 hj,← ag,jL,if_pos (by rw [ap] at*;simpa using ar)],ae,ci,ah⟩ ?_ ?_ ?_)
       ·exact aF
       ·exact aF
       ·exact aC
     ·refine lH ?_;refine r_te ?_;refine r_te ?_;refine r_be ?_;refine r_bn ?_;refine eB (bM _ _ _ ?_)
      have bp:U=bgo (fun v:Nat=>dS (v:Int) l) (fO c b0) (k+1):=by
        rw [ag,List.take_of_length_le aA]
        show _=oN _ k (bgo (fun v:Nat=>dS (v:Int) l) (fO c b0) k)
        rw [← ac,p5 Y,← hv,Int.toNat_natCast]
      have bk:=a7 (U.1.drop k)
      rw [List.length_drop] at bk;have bh:=ah
      obtain ⟨ao,bq,be,az,ck,rfl,rfl,cC,cD,cE,cB⟩:=bh
      obtain ⟨ab,rfl⟩:∃ ab,ab=U:=⟨_,rfl⟩
      have cp : ab.1[k]'aA = (F : Int) := by
        obtain ⟨r,hr⟩:=bpush_ext ((dS (F:Int) l).take j) X
        rw [← ag] at hr;simp only [hr];rw [List.getElem_append_left Y];exact hv.symm
      refine cA ?_;refine aN rfl rfl rfl rfl (aR rfl) ?_;refine aN rfl rfl rfl rfl (f7 bU rfl rfl rfl rfl (fun h=>by cases h) 1 _ _ (.inr ⟨_,_,rfl,aA⟩) (.inl ⟨rfl,rfl⟩) (.inl ⟨rfl,rfl⟩) ⟨aA,aA,aA⟩ _ rfl) ?_;refine aN rfl rfl rfl rfl (bI rfl) ?_;refine dM ?_;have aq:bgo (fun v:Nat=>dS (v:Int) l) (fO c b0) (k+1)=ab:=bp.symm
      rw [← aq];refine eB (lP (k+1,.slice (if be=1 then some ⟨ao,bq,none⟩ else (some ⟨ao,bq,none⟩:Option Addr).map (·.add (1*1))) ((a8 ((bgo (fun v:Nat=>dS (v:Int) l) (fO c b0) (k+1)).1.drop k)).length - 1) (be - 1),[(ao,blk (az++(a8 ((bgo (fun v:Nat=>dS (v:Int) l) (fO c b0) (k+1)).1.drop k)++ck)) 3)],m2) (by first|omega|(dsimp only;omega)|(simp;omega)) rfl ⟨by rw [aq];omega,by rw [aq];refine OwnQ.tail (x:= .int .i64 (F:Int)) ?_;rw [show Value.int .i64 (F:Int)::a8 (ab.1.drop (k+1))=a8 (ab.1.drop k) from by rw [drop_cons_of (show k<ab.1.length by omega),cp];rfl];exact ah,by rw [← ay];exact cn⟩ ?_ ?_ ?_)
      ·exact aF
      ·exact aF
      ·exact aC
  ·have a2:X.1.length≤k:=aA
   have aj:bfs n (fun v:Nat=>dS (v:Int) l) c b0=X:=by rw [ac];exact bgo_fin aA (by rw [← ac];exact a2)
   have bL:(bfs n (fun v:Nat=>dS (v:Int) l) c b0).1.take k=(bfs n (fun v:Nat=>dS (v:Int) l) c b0).1:=List.take_of_length_le (by rw [aj];exact a2)
   rw [bL] at hJ;refine lH ?_;refine r_te ?_;refine r_te ?_;refine r_be ?_;exact r_fin0n [mJ,[(b5,blk [.slice (some ⟨O,0,none⟩) n n] 37)],[(b4,blk [.int .i64 (c:Int)] 3)],[(b3,blk [.slice (some ⟨bo,0,none⟩) n n] 32)],[(O,blk (f8 X.2) 4)],[(bo,blk vs 25)],ms.flatten] Tryz.results188 aC ⟨rfl,mJ,_,rfl,.inl ⟨_,⟨rfl,by rw [aj]⟩,hJ⟩⟩
def eX (N:Int) (l:List Arc) (c most:Int):List Int×Int:=
 if (cL N l).2≠0 then ([],(cL N l).2) else if c<0∨N≤c then ([],5) else if most<1∨1024<most then ([],1) else
  ((bfs N.toNat (fun v:Nat=>dS (v:Int) l) c.toNat (List.replicate N.toNat false)).1.take most.toNat,0)
theorem pL {n:Nat} {l:List Arc} (hg:(cL (n:Int) l).2=0):(∀ v:Nat,(dS (v:Int) l).length≤8192)∧∀ v,v<n→∀ u∈dS (v:Int) l,0≤u∧u<(n:Int):=by
 obtain ⟨_,_,hlen,J⟩:=cF hg
 refine ⟨fun v=>?_,fun v _ u O=>?_⟩
 ·unfold dS
  refine Nat.le_trans (lN _) ?_;rw [fP];exact Nat.le_trans (qL v l) hlen
 ·obtain ⟨x,hx,F⟩:=nbrs_mem.1 O
  obtain ⟨i,hi,rfl⟩:=List.mem_iff_getElem.1 hx
  have:=J i hi
  unfold nbr at F
  split at F
  ·simp at F
  ·split at F
   ·simp at F;omega
   ·split at F
    ·simp at F;omega
    ·simp at F
theorem pC (n:Nat) (b:Bool):(List.replicate n [Value.bool b]).flatten=f8 (List.replicate n b):=by
 induction n with
 |zero=>rfl
 |succ n ih=>rw [List.replicate_succ,List.flatten_cons,ih];rfl
theorem Region_spec (N:Int) (A:Option Addr) (l:List Arc) (cap:Nat) (c most:Int) (w:World) (hr:Ro (Fr w []) w A (l.flatMap cH)) (hl:l.length≤9223372036854775807) (hN:I64 N) (hok:∀ x∈l,eN x):
    Meets Tryz.prog 161 [.agg #[.int .i64 N,.slice A l.length cap],.int .i64 c,.int .i64 most] w [] (fun u own' =>∃ s ms,u= .tuple #[s,.int .i64 (eX N l c most).2]∧own' =[ms]∧Own 3 1 s (eX N l c most).1.length (a8 (eX N l c most).1) ms):=by
 refine r_enter Tryz.func161 rfl Tryz.ntmps161 rfl Owns.nil ?_;refine dW fun K1 bR=>?_;refine cA ?_;refine fS rfl rfl rfl (Does.toR rfl (cZ rfl rfl fun b3=>?_));refine fS rfl rfl rfl (Does.toR rfl (cZ rfl rfl fun b5=>?_));refine aN rfl rfl rfl rfl (bI rfl) ?_;refine aN rfl rfl rfl rfl (bI rfl) ?_;refine dM ?_;refine eB (bR _ _ _ ?_);refine dW fun K2 bw=>?_;refine dW fun K3 bk=>?_;refine cA ?_;refine aN rfl rfl rfl rfl (aQ (vs:=[_,_]) Tryz.isAgg24 Tryz.sizeOf24 rfl rfl ⟨(rdA rfl),(rdA rfl),trivial⟩) ?_;refine fS rfl rfl rfl (Does.toR rfl (aW Tryz.call20 rfl (fun w_ ad=>gF N A l cap w_ (hr.up0 ad) hl hN hok) ?_));rintro _ _ ⟨rfl,rfl⟩;dsimp only [aK,aJ];refine aN rfl rfl rfl rfl (aR rfl) ?_;refine aN rfl rfl rfl rfl (eU rfl rfl) ?_;refine aN rfl rfl rfl rfl (eU rfl rfl) ?_;refine aN rfl rfl rfl rfl (bI rfl) ?_;refine aN rfl rfl rfl rfl (bI rfl) ?_;refine dM ?_;refine eB (bk _ _ _ ?_);refine dW fun K4 bt=>?_;refine cA ?_;refine aN rfl rfl rfl rfl (aR rfl) ?_;refine aN rfl rfl rfl rfl (o_neq rfl rfl) ?_;refine dM ?_;refine eB (bt _ _ _ ?_);refine kM rfl (fun ag=>?_) (fun ag=>?_)
 ·refine dW fun K5 bq=>?_;refine cA ?_;refine aN rfl rfl rfl rfl (aR rfl) ?_;refine aN rfl rfl rfl rfl (bI rfl) ?_;refine aN rfl rfl rfl rfl (bI rfl) ?_;refine dM ?_;refine eB (bq _ _ _ ?_);refine nL ?_;refine r_tr ?_;have e:eX N l c most=([],(cL N l).2):=if_pos ag
  exact lG [[]] Tryz.results161 rfl rfl (show Fly.Sub _ [[],[]] from aC) ⟨_,_,by rw [e],rfl,by rw [e];exact Own.nil _ _⟩
 ·refine iX ?_;refine eB (bw _ _ _ ?_);refine dW fun K6 bv=>?_;refine f9 ?_;refine dW fun K7 ba=>?_;refine cA ?_;refine aN rfl rfl rfl rfl (aR rfl) ?_;refine aN rfl rfl rfl rfl (o_lss rfl rfl) ?_;refine aN rfl rfl rfl rfl (aR rfl) ?_;refine r_splitL 23 rfl (fun bL=>?_) (fun bL=>?_)
  ·refine r_stepN rfl rfl rfl rfl rfl rfl ?_;refine r_stepN rfl rfl rfl rfl rfl rfl ?_;refine r_stepN rfl rfl rfl rfl rfl rfl ?_;refine r_stepN rfl rfl rfl rfl rfl rfl ?_;refine aN rfl rfl rfl rfl (lQ rfl rfl) ?_;refine aN rfl rfl rfl rfl (bI rfl) ?_;refine dM ?_;refine eB (ba _ _ _ ?_);refine r_condT rfl ?_;refine dW fun K8 bM=>?_;refine cA ?_;refine aN rfl rfl rfl rfl (bI rfl) ?_;refine aN rfl rfl rfl rfl (bI rfl) ?_;refine dM ?_;refine eB (bM _ _ _ ?_);refine nL ?_;refine r_br ?_;refine r_tr ?_;have e:eX N l c most=([],5):=by unfold eX;rw [if_neg ag,if_pos aA]
   exact lG [[]] Tryz.results161 rfl rfl (show Fly.Sub _ [[],[]] from aC) ⟨_,_,by rw [e],rfl,by rw [e];exact Own.nil _ _⟩
  ·refine pF rfl rfl rfl rfl rfl rfl (aR rfl) ?_;refine pF rfl rfl rfl rfl rfl rfl (aT eV rfl) ?_;refine pF rfl rfl rfl rfl rfl rfl (aH Tryz.isAgg3 rfl (rdA rfl)) ?_;refine pF rfl rfl rfl rfl rfl rfl (o_geq rfl rfl) ?_;refine aN rfl rfl rfl rfl (oG rfl rfl) ?_;refine aN rfl rfl rfl rfl (bI rfl) ?_;refine dM ?_;refine eB (ba _ _ _ ?_);refine kM rfl (fun bB=>?_) (fun bB=>?_)
   ·refine dW fun K9 bu=>?_;refine cA ?_;refine aN rfl rfl rfl rfl (bI rfl) ?_;refine aN rfl rfl rfl rfl (bI rfl) ?_;refine dM ?_;refine eB (bu _ _ _ ?_);refine nL ?_;refine r_br ?_;refine r_tr ?_;have e:eX N l c most=([],5):=by unfold eX;rw [if_neg ag,if_pos aA]
    exact lG [[]] Tryz.results161 rfl rfl (show Fly.Sub _ [[],[]] from aC) ⟨_,_,by rw [e],rfl,by rw [e];exact Own.nil _ _⟩
   ·refine dW fun ci ap=>?_;refine cA ?_;refine aN rfl rfl rfl rfl (aH Tryz.isAgg3 rfl (rdA rfl)) ?_;refine aN rfl rfl rfl rfl (o_lss rfl rfl) ?_;refine aN rfl rfl rfl rfl (aR rfl) ?_;refine r_splitL 32 rfl (fun bK=>?_) (fun bK=>?_)
    ·refine r_stepN rfl rfl rfl rfl rfl rfl ?_;refine r_stepN rfl rfl rfl rfl rfl rfl ?_;refine aN rfl rfl rfl rfl (lQ rfl rfl) ?_;refine aN rfl rfl rfl rfl (bI rfl) ?_;refine dM ?_;refine eB (ap _ _ _ ?_);refine r_condT rfl ?_;refine dW fun ck bh=>?_;refine cA ?_;refine aN rfl rfl rfl rfl (bI rfl) ?_;refine aN rfl rfl rfl rfl (bI rfl) ?_;refine dM ?_;refine eB (bh _ _ _ ?_);refine nL ?_;refine r_br ?_;refine r_tr ?_;have e:eX N l c most=([],1):=by unfold eX;rw [if_neg ag,if_neg aA,if_pos aA]
     exact lG [[]] Tryz.results161 rfl rfl (show Fly.Sub _ [[],[]] from aC) ⟨_,_,by rw [e],rfl,by rw [e];exact Own.nil _ _⟩
    ·refine pF rfl rfl rfl rfl rfl rfl (aH Tryz.isAgg3 rfl (rdA rfl)) ?_;refine pF rfl rfl rfl rfl rfl rfl (o_gtr rfl rfl) ?_;refine aN rfl rfl rfl rfl (oG rfl rfl) ?_;refine aN rfl rfl rfl rfl (bI rfl) ?_;refine dM ?_;refine eB (ap _ _ _ ?_);refine kM rfl (fun bD=>?_) (fun bD=>?_)
     ·refine dW fun cg av=>?_;refine cA ?_;refine aN rfl rfl rfl rfl (bI rfl) ?_;refine aN rfl rfl rfl rfl (bI rfl) ?_;refine dM ?_;refine eB (av _ _ _ ?_);refine nL ?_;refine r_br ?_;refine r_tr ?_;have e:eX N l c most=([],1):=by unfold eX;rw [if_neg ag,if_neg aA,if_pos aA]
      exact lG [[]] Tryz.results161 rfl rfl (show Fly.Sub _ [[],[]] from aC) ⟨_,_,by rw [e],rfl,by rw [e];exact Own.nil _ _⟩
     ·refine iX ?_;refine r_bn ?_;refine eB (bv _ _ _ ?_);refine dW fun ce ay=>?_;have hg:(cL N l).2=0:=by simpa using ag
      obtain ⟨b2,b7,bj,bf⟩:=cF hg
      obtain ⟨n,rfl⟩:∃ n:Nat,N=(n:Int):=⟨N.toNat,aA⟩
      obtain ⟨Z,rfl⟩:∃ Z:Nat,c=(Z:Int):=⟨c.toNat,aA⟩
      obtain ⟨O,rfl⟩:∃ O:Nat,most=(O:Int):=⟨most.toNat,aA⟩
      have an:n≤1024:=aA
      obtain ⟨bg,ao⟩:=pL hg
      have Y:eX (n:Int) l (Z:Int) (O:Int)=((bfs n (fun v:Nat=>dS (v:Int) l) Z (List.replicate n false)).1.take O,0):=by unfold eX;rw [if_neg (by rw [hg];simp),if_neg aA,if_neg aA,Int.toNat_natCast,Int.toNat_natCast,Int.toNat_natCast]
      refine cA ?_;refine fS rfl rfl rfl (Does.toR rfl (cX Tryz.zeroValue25 rfl fun F=>?_));refine dM ?_;refine eB (ay _ _ _ ?_);refine dW fun b4 aj=>?_;refine dW fun b6 aq=>?_;refine r_old ?_;refine cQ [[(b3,blk [.int .i64 (n:Int),.slice A l.length cap] 24)]] rfl<|f_T 0 rfl (aQ (vs:=[_,_]) Tryz.isAgg24 Tryz.sizeOf24 rfl rfl ⟨(rdA rfl),(rdA rfl),trivial⟩)<|f_T 2 rfl (aR rfl)<|f_T 3 rfl (aT eV rfl)<|f_T 4 rfl (aH Tryz.isAgg3 rfl (rdA rfl))<|gD 1 5 rfl rfl aU rfl rfl rfl rfl rfl rfl ?_ ?_
      ·refine (aW Tryz.call168 rfl (fun w_ ad=>qB n A l cap w_ (hr.up0 ad) an bj bf) ?_);rintro _ _ ⟨bo,vs,ms,rfl,rfl,hR⟩;dsimp only [aK,aJ];refine ⟨aC,?_⟩;refine f_O 5 rfl (e6 el37 rfl rfl n rfl aA aA (f8 (List.replicate n false)) (pC n false) fun U=>⟨aC,?_⟩);refine f_O 6 rfl (aW Tryz.call169 rfl (fun w_ ad=>around_spec n bo U (Z:Int) w_) ?_);rintro _ _ ⟨q3,q4,q5,rfl,rfl⟩;dsimp only [aK,aJ];refine ⟨aC,?_⟩;refine cO aU ?_;refine r_new ?_;refine eB (aq _ _ _ ?_);refine f9 ?_;refine r_range (p:=43) (lb:=[.pointer (some ⟨q5,0,none⟩),.pointer (some ⟨q4,0,none⟩),.pointer (some ⟨q3,0,none⟩)]) rfl Tryz.call188 rfl [[(F,blk [.slice none 0 0] 25)],[(b5,blk [.int .i64 (O:Int)] 3)]] [[(q5,blk [.slice (some ⟨U,0,none⟩) n n] 37)],[(q4,blk [.int .i64 (Z:Int)] 3)],[(q3,blk [.slice (some ⟨bo,0,none⟩) n n] 32)],[(U,blk (f8 (List.replicate n false)) 4)],[(bo,blk vs 25)],ms.flatten] [] (by repeat (first|exact Sub.refl|exact aP|refine aL ?_|refine bV rfl ?_|refine fY ?_)) (fun y:Int=>Value.int .i64 y) (may:=arMay (bfs n (fun v:Nat=>dS (v:Int) l) Z (List.replicate n false))) (Fin:=arFin (bfs n (fun v:Nat=>dS (v:Int) l) Z (List.replicate n false)) n Z U bo q3 q4 q5 vs ms.flatten) (Stp:=arStp (bfs n (fun v:Nat=>dS (v:Int) l) Z (List.replicate n false)) n Z U bo q3 q4 q5 vs ms.flatten) (fun al ar ad=>q8 n Z U bo q3 q4 q5 l (List.replicate n false) vs ms ar al aO aA an hR ao bg) (fun ys m=>ys.length<O∧∃ vo J,m=[(F,blk [vo] 25),(b5,blk [.int .i64 (O:Int)] 3)]++J∧Own 3 1 vo ys.length (a8 ys) J) (fun ys m=>ys.length=O∧∃ vo J,m=[(F,blk [vo] 25),(b5,blk [.int .i64 (O:Int)] 3)]++J∧Own 3 1 vo ys.length (a8 ys) J) (.exit 1) (⟨by show 0<O;omega,.slice none 0 0,[],rfl,Own.nil _ _⟩) ?_ ?_ ?_
       ·intro al l_ d_ ys y m_ hI az br K_ ak;obtain ⟨hlt,vo,J,rfl,hO⟩:=hI
        obtain ⟨Ao,co,rfl,am⟩:=hO.val
        refine r_subC (Sub.op3 (parts:=[[(F,blk [.slice Ao ys.length co] 25)],[(b5,blk [.int .i64 (O:Int)] 3)],J]) aO Sub.refl) ?_;dsimp only [aK,aJ];refine cA ?_;refine aN rfl rfl rfl rfl (bI rfl) ?_;refine dM ?_;refine eB (ak _ _ ?_);clear ak;refine f9 ?_;refine dW fun b8 a2=>?_;refine cA ?_;refine aN rfl rfl rfl rfl (aH Tryz.isAgg25 rfl (rdA rfl)) ?_;refine aN rfl rfl rfl rfl (aR rfl) ?_;refine fS rfl rfl rfl (Does.toR rfl (bX eO aA rfl rfl rfl fun bC=>?_));refine fS rfl rfl rfl (Does.toR rfl (dJ eO rfl rfl hO (ys:=[.int .i64 y]) ⟨(rdA rfl),trivial⟩ rfl rfl aA aA fun bE X ah=>?_));obtain ⟨ab,aa,rfl,_⟩:=ah.val
        refine kW rfl rfl (Does.toR rfl (bQ Tryz.sizeOf25 rfl rfl rfl rfl cG [.slice ab (ys.length+1) aa] rfl ?_));refine dM ?_;refine eB (a2 _ _ _ ?_);refine dW fun cj be=>?_;refine cA ?_;refine aN rfl rfl rfl rfl (aH Tryz.isAgg25 rfl (rdA rfl)) ?_;refine aN rfl rfl rfl rfl (iZ bU rfl) ?_;refine aN rfl rfl rfl rfl (aH Tryz.isAgg3 rfl (rdA rfl)) ?_;refine aN rfl rfl rfl rfl (o_eql rfl rfl) ?_;refine dM ?_;refine eB (be _ _ _ ?_);refine kM rfl (fun ai=>?_) (fun ai=>?_)
        ·refine lH ?_;refine r_bo rfl ?_;exact r_roundOut (m' :=[(F,blk [.slice ab (ys.length+1) aa] 25),(b5,blk [.int .i64 (O:Int)] 3)]++X) (.inr ⟨_,rfl,rfl⟩) (Sub.reg (out:=[[(l_,.loop (d_.rc .busy none))],[(d_.D,.deferred (some []))],[(F,blk [.slice ab (ys.length+1) aa] 25)],[(b5,blk [.int .i64 (O:Int)] 3)],X]) aC aO) ⟨by simp at ai ⊢;omega,_,X,rfl,by rw [List.length_append,eL];exact ah⟩
        ·refine iX ?_;refine r_bn ?_;exact qE (m' :=[(F,blk [.slice ab (ys.length+1) aa] 25),(b5,blk [.int .i64 (O:Int)] 3)]++X) (Sub.reg (out:=[[(l_,.loop (d_.rc .busy none))],[(d_.D,.deferred (some []))],[(F,blk [.slice ab (ys.length+1) aa] 25)],[(b5,blk [.int .i64 (O:Int)] 3)],X]) aC aO) ⟨by simp at ai ⊢;omega,_,X,rfl,by rw [List.length_append,eL];exact ah⟩
       ·intro D_ ys m_ o_ hF hI;obtain ⟨hlt,vo,J,rfl,hO⟩:=hI
        obtain ⟨Ao,co,rfl,am⟩:=hO.val
        obtain ⟨ac,rfl⟩:=hF
        have ae:(bfs n (fun v:Nat=>dS (v:Int) l) Z (List.replicate n false)).1.take O=ys:=by rw [← ac];exact List.take_of_length_le aA
        refine r_subQ (Sub.op2 (parts:=[[(F,blk [.slice Ao ys.length co] 25)],[(b5,blk [.int .i64 (O:Int)] 3)],J]) aO (show Fly.Sub _ [[(D_,.deferred (some []))],[(F,blk [.slice Ao ys.length co] 25)],J] from by dsimp only [aK,aJ];repeat first|exact aP|refine aL ?_|refine bV rfl ?_|refine fY ?_)) ?_;refine r_bn ?_;refine eB (aj _ _ _ ?_);refine dW fun bW bi=>?_;refine cA ?_;refine aN rfl rfl rfl rfl (aH Tryz.isAgg25 rfl (rdA rfl)) ?_;refine aN rfl rfl rfl rfl (bI rfl) ?_;refine aN rfl rfl rfl rfl (bI rfl) ?_;refine dM ?_;refine eB (bi _ _ _ ?_);refine nL ?_;exact lG [J] Tryz.results161 rfl rfl (show Fly.Sub _ ([(D_,Obj.deferred (some []))]::[J]) from aC) ⟨.slice Ao ys.length co,J,by rw [Y],rfl,by rw [Y];simp only;rw [ae];exact hO⟩
       ·intro D_ ys m_ o_ hF hI;obtain ⟨hlt,vo,J,rfl,hO⟩:=hI
        obtain ⟨Ao,co,rfl,am⟩:=hO.val
        obtain ⟨kk,hkk,ac,b',bp,rfl⟩:=hF
        have ae:(bfs n (fun v:Nat=>dS (v:Int) l) Z (List.replicate n false)).1.take O=ys:=by rw [ac];congr 1;rw [ac,List.length_take] at hlt;omega
        refine r_subC (Sub.op2 (parts:=[[(F,blk [.slice Ao ys.length co] 25)],[(b5,blk [.int .i64 (O:Int)] 3)],J]) aO (show Fly.Sub _ [[(D_,.deferred (some []))],[(F,blk [.slice Ao ys.length co] 25)],J] from by dsimp only [aK,aJ];repeat first|exact aP|refine aL ?_|refine bV rfl ?_|refine fY ?_)) ?_;refine lH ?_;refine r_be ?_;refine eB (aj _ _ _ ?_);refine dW fun cd a1=>?_;refine cA ?_;refine aN rfl rfl rfl rfl (aH Tryz.isAgg25 rfl (rdA rfl)) ?_;refine aN rfl rfl rfl rfl (bI rfl) ?_;refine aN rfl rfl rfl rfl (bI rfl) ?_;refine dM ?_;refine eB (a1 _ _ _ ?_);refine nL ?_;exact lG [J] Tryz.results161 rfl rfl (show Fly.Sub _ ([(D_,Obj.deferred (some []))]::[J]) from aC) ⟨.slice Ao ys.length co,J,by rw [Y],rfl,by rw [Y];simp only;rw [ae];exact hO⟩
      ·refine (e6 el37 rfl rfl n rfl aA aA (f8 (List.replicate n false)) (pC n false) fun U=>⟨aC,?_⟩);refine f_O 1 rfl (aW Tryz.call168 rfl (fun w_ ad=>qB n A l cap w_ (hr.up0 ad) an bj bf) ?_);rintro _ _ ⟨bo,vs,ms,rfl,rfl,hR⟩;dsimp only [aK,aJ];refine ⟨aC,?_⟩;refine f_O 6 rfl (aW Tryz.call169 rfl (fun w_ ad=>around_spec n bo U (Z:Int) w_) ?_);rintro _ _ ⟨q3,q4,q5,rfl,rfl⟩;dsimp only [aK,aJ];refine ⟨aC,?_⟩;refine cO aU ?_;refine r_new ?_;refine eB (aq _ _ _ ?_);refine f9 ?_;refine r_range (p:=43) (lb:=[.pointer (some ⟨q5,0,none⟩),.pointer (some ⟨q4,0,none⟩),.pointer (some ⟨q3,0,none⟩)]) rfl Tryz.call188 rfl [[(F,blk [.slice none 0 0] 25)],[(b5,blk [.int .i64 (O:Int)] 3)]] [[(q5,blk [.slice (some ⟨U,0,none⟩) n n] 37)],[(q4,blk [.int .i64 (Z:Int)] 3)],[(q3,blk [.slice (some ⟨bo,0,none⟩) n n] 32)],[(U,blk (f8 (List.replicate n false)) 4)],[(bo,blk vs 25)],ms.flatten] [] (by repeat (first|exact Sub.refl|exact aP|refine aL ?_|refine bV rfl ?_|refine fY ?_)) (fun y:Int=>Value.int .i64 y) (may:=arMay (bfs n (fun v:Nat=>dS (v:Int) l) Z (List.replicate n false))) (Fin:=arFin (bfs n (fun v:Nat=>dS (v:Int) l) Z (List.replicate n false)) n Z U bo q3 q4 q5 vs ms.flatten) (Stp:=arStp (bfs n (fun v:Nat=>dS (v:Int) l) Z (List.replicate n false)) n Z U bo q3 q4 q5 vs ms.flatten) (fun al ar ad=>q8 n Z U bo q3 q4 q5 l (List.replicate n false) vs ms ar al aO aA an hR ao bg) (fun ys m=>ys.length<O∧∃ vo J,m=[(F,blk [vo] 25),(b5,blk [.int .i64 (O:Int)] 3)]++J∧Own 3 1 vo ys.length (a8 ys) J) (fun ys m=>ys.length=O∧∃ vo J,m=[(F,blk [vo] 25),(b5,blk [.int .i64 (O:Int)] 3)]++J∧Own 3 1 vo ys.length (a8 ys) J) (.exit 1) (⟨by show 0<O;omega,.slice none 0 0,[],rfl,Own.nil _ _⟩) ?_ ?_ ?_
       ·intro al l_ d_ ys y m_ hI az br K_ ak;obtain ⟨hlt,vo,J,rfl,hO⟩:=hI
        obtain ⟨Ao,co,rfl,am⟩:=hO.val
        refine r_subC (Sub.op3 (parts:=[[(F,blk [.slice Ao ys.length co] 25)],[(b5,blk [.int .i64 (O:Int)] 3)],J]) aO Sub.refl) ?_;dsimp only [aK,aJ];refine cA ?_;refine aN rfl rfl rfl rfl (bI rfl) ?_;refine dM ?_;refine eB (ak _ _ ?_);clear ak;refine f9 ?_;refine dW fun bY au=>?_;refine cA ?_;refine aN rfl rfl rfl rfl (aH Tryz.isAgg25 rfl (rdA rfl)) ?_;refine aN rfl rfl rfl rfl (aR rfl) ?_;refine fS rfl rfl rfl (Does.toR rfl (bX eO aA rfl rfl rfl fun bC=>?_));refine fS rfl rfl rfl (Does.toR rfl (dJ eO rfl rfl hO (ys:=[.int .i64 y]) ⟨(rdA rfl),trivial⟩ rfl rfl aA aA fun bE X ah=>?_));obtain ⟨ab,aa,rfl,_⟩:=ah.val
        refine kW rfl rfl (Does.toR rfl (bQ Tryz.sizeOf25 rfl rfl rfl rfl cG [.slice ab (ys.length+1) aa] rfl ?_));refine dM ?_;refine eB (au _ _ _ ?_);refine dW fun cf aw=>?_;refine cA ?_;refine aN rfl rfl rfl rfl (aH Tryz.isAgg25 rfl (rdA rfl)) ?_;refine aN rfl rfl rfl rfl (iZ bU rfl) ?_;refine aN rfl rfl rfl rfl (aH Tryz.isAgg3 rfl (rdA rfl)) ?_;refine aN rfl rfl rfl rfl (o_eql rfl rfl) ?_;refine dM ?_;refine eB (aw _ _ _ ?_);refine kM rfl (fun ai=>?_) (fun ai=>?_)
        ·refine lH ?_;refine r_bo rfl ?_;exact r_roundOut (m' :=[(F,blk [.slice ab (ys.length+1) aa] 25),(b5,blk [.int .i64 (O:Int)] 3)]++X) (.inr ⟨_,rfl,rfl⟩) (Sub.reg (out:=[[(l_,.loop (d_.rc .busy none))],[(d_.D,.deferred (some []))],[(F,blk [.slice ab (ys.length+1) aa] 25)],[(b5,blk [.int .i64 (O:Int)] 3)],X]) aC aO) ⟨by simp at ai ⊢;omega,_,X,rfl,by rw [List.length_append,eL];exact ah⟩
        ·refine iX ?_;refine r_bn ?_;exact qE (m' :=[(F,blk [.slice ab (ys.length+1) aa] 25),(b5,blk [.int .i64 (O:Int)] 3)]++X) (Sub.reg (out:=[[(l_,.loop (d_.rc .busy none))],[(d_.D,.deferred (some []))],[(F,blk [.slice ab (ys.length+1) aa] 25)],[(b5,blk [.int .i64 (O:Int)] 3)],X]) aC aO) ⟨by simp at ai ⊢;omega,_,X,rfl,by rw [List.length_append,eL];exact ah⟩
       ·intro D_ ys m_ o_ hF hI;obtain ⟨hlt,vo,J,rfl,hO⟩:=hI
        obtain ⟨Ao,co,rfl,am⟩:=hO.val
        obtain ⟨ac,rfl⟩:=hF
        have ae:(bfs n (fun v:Nat=>dS (v:Int) l) Z (List.replicate n false)).1.take O=ys:=by rw [← ac];exact List.take_of_length_le aA
        refine r_subQ (Sub.op2 (parts:=[[(F,blk [.slice Ao ys.length co] 25)],[(b5,blk [.int .i64 (O:Int)] 3)],J]) aO (show Fly.Sub _ [[(D_,.deferred (some []))],[(F,blk [.slice Ao ys.length co] 25)],J] from by dsimp only [aK,aJ];repeat first|exact aP|refine aL ?_|refine bV rfl ?_|refine fY ?_)) ?_;refine r_bn ?_;refine eB (aj _ _ _ ?_);refine dW fun b1 ax=>?_;refine cA ?_;refine aN rfl rfl rfl rfl (aH Tryz.isAgg25 rfl (rdA rfl)) ?_;refine aN rfl rfl rfl rfl (bI rfl) ?_;refine aN rfl rfl rfl rfl (bI rfl) ?_;refine dM ?_;refine eB (ax _ _ _ ?_);refine nL ?_;exact lG [J] Tryz.results161 rfl rfl (show Fly.Sub _ ([(D_,Obj.deferred (some []))]::[J]) from aC) ⟨.slice Ao ys.length co,J,by rw [Y],rfl,by rw [Y];simp only;rw [ae];exact hO⟩
       ·intro D_ ys m_ o_ hF hI;obtain ⟨hlt,vo,J,rfl,hO⟩:=hI
        obtain ⟨Ao,co,rfl,am⟩:=hO.val
        obtain ⟨kk,hkk,ac,b',bp,rfl⟩:=hF
        have ae:(bfs n (fun v:Nat=>dS (v:Int) l) Z (List.replicate n false)).1.take O=ys:=by rw [ac];congr 1;rw [ac,List.length_take] at hlt;omega
        refine r_subC (Sub.op2 (parts:=[[(F,blk [.slice Ao ys.length co] 25)],[(b5,blk [.int .i64 (O:Int)] 3)],J]) aO (show Fly.Sub _ [[(D_,.deferred (some []))],[(F,blk [.slice Ao ys.length co] 25)],J] from by dsimp only [aK,aJ];repeat first|exact aP|refine aL ?_|refine bV rfl ?_|refine fY ?_)) ?_;refine lH ?_;refine r_be ?_;refine eB (aj _ _ _ ?_);refine dW fun b9 bc=>?_;refine cA ?_;refine aN rfl rfl rfl rfl (aH Tryz.isAgg25 rfl (rdA rfl)) ?_;refine aN rfl rfl rfl rfl (bI rfl) ?_;refine aN rfl rfl rfl rfl (bI rfl) ?_;refine dM ?_;refine eB (bc _ _ _ ?_);refine nL ?_;exact lG [J] Tryz.results161 rfl rfl (show Fly.Sub _ ([(D_,Obj.deferred (some []))]::[J]) from aC) ⟨.slice Ao ys.length co,J,by rw [Y],rfl,by rw [Y];simp only;rw [ae];exact hO⟩
def i5 (N:Int) (l:List Arc) (c most:Int):List Int×Int:=((eX N l c most).1.take (((eX N l c most).1.length+3) / 4),(eX N l c most).2)
theorem regR_len {N:Int} {l:List Arc} {c most:Int}:(eX N l c most).1.length≤1024:=by
 unfold eX
 split
 ·simp
 ·split
  ·simp
  ·split
   ·simp
   ·simp only [List.length_take];omega
theorem regR_err {N:Int} {l:List Arc} {c most:Int} (h:(eX N l c most).2≠0):(eX N l c most).1=[]:=by
 unfold eX at h ⊢
 split
 ·rfl
 ·split
  ·rfl
  ·split
   ·rfl
   ·rename_i h1 h2 h3;rw [if_neg h1,if_neg h2,if_neg h3] at h;exact absurd rfl h
def offV (N:Int) (v:Int):Bool:=decide (v<0∨N≤v)
theorem Core_spec (N:Int) (A:Option Addr) (l:List Arc) (cap:Nat) (c most:Int) (w:World) (hr:Ro (Fr w []) w A (l.flatMap cH)) (hl:l.length≤9223372036854775807) (hN:I64 N) (hok:∀ x∈l,eN x):
    Meets Tryz.prog 162 [.agg #[.int .i64 N,.slice A l.length cap],.int .i64 c,.int .i64 most] w [] (fun u own' =>∃ s ms,u= .tuple #[s,.int .i64 (i5 N l c most).2]∧own' =[ms]∧Own 3 1 s (i5 N l c most).1.length (a8 (i5 N l c most).1) ms):=by
 have ab:=regR_len (N:=N) (l:=l) (c:=c) (most:=most)
 refine bG Tryz.func162 rfl Tryz.ntmps162 rfl Owns.nil<|aG fun kh1=>f_S (cZ rfl rfl fun b3=>?_)
 refine aB 2 rfl<|aD kh1<|aG fun kh2=>f_Q (aQ (vs:=[_,_]) Tryz.isAgg24 Tryz.sizeOf24 rfl rfl ⟨(rdA rfl),(rdA rfl),trivial⟩)<|aB 2 rfl ?_
 refine f_S (aW Tryz.call161 rfl (fun w_ F=>Region_spec N A l cap c most w_ (hr.up0 F) hl hN hok) ?_);rintro _ _ ⟨s,ms,rfl,rfl,ho⟩;obtain ⟨Y,U,rfl,ac⟩:=ho.val
 dsimp only [aK,aJ];refine aB 5 rfl<|aD kh2<|aV fun kh3=>aG fun kh4=>aB 2 rfl<|aD kh4<|aX rfl (fun c18=>?_) (fun c18=>?_)
 ·refine aG fun Z=>aB 3 rfl<|aD Z<|aZ<|dA ?_
  have e1:=regR_err c18
  exact dB [[]] Tryz.results162 rfl rfl (show Fly.Sub _ [[]] from aC) ⟨_,_,rfl,rfl,by unfold i5;rw [e1];exact Own.nil _ _⟩
 ·refine bZ kh3<|aG fun kh6=>aB 2 rfl<|dY bU rfl<|f_Q (bF rfl rfl)<|f_Q (o_quo rfl rfl (by decide) (((((eX N l c most).1.length+3) / 4:Nat)):Int) (by rw [show ((((eX N l c most).1.length:Nat):Int)+3)=(((eX N l c most).1.length+3:Nat):Int) by omega,show (4:Int)=((4:Nat):Int) from rfl,tdiv_nat];exact d8 aA)) ?_
  refine f_Q (f7 bU rfl rfl rfl rfl (fun h=>by cases h) 0 (((eX N l c most).1.length+3) / 4) U (.inl ⟨rfl,rfl⟩) (.inr ⟨_,_,rfl,aA⟩) (.inl ⟨rfl,rfl⟩) ⟨aA,aA,aA⟩ (.slice Y (((eX N l c most).1.length+3) / 4) U) (by rw [Nat.sub_zero];congr 1;split;rfl;cases Y with|none=>rfl|some x=>obtain ⟨p,q,r⟩:=x;cases r<;>simp [Addr.add])) ?_;refine f_S (aW Tryz.call56 rfl (fun w_ F=>oP Y (((eX N l c most).1.length+3) / 4) (a8 ((eX N l c most).1.take (((eX N l c most).1.length+3) / 4))) U w_ (by have h:=fD (ho.seen F);rw [← List.take_append_drop (((eX N l c most).1.length+3) / 4) (eX N l c most).1,eL] at h;exact fun X=>by obtain ⟨b,off,e,hS,hc⟩:=h (by simp [X]);exact ⟨b,off,e,hS,fun j v hj=>hc j v (d7 hj)⟩) (fun e=>by have:=kX ho e;omega) (by rw [a7,List.length_take];omega) (ints_oneG _) aA) ?_);rintro aa _ ⟨J,rfl,O⟩;dsimp only [aK,aJ];refine aB 2 rfl<|aD kh6<|aZ ?_
  have e0:(eX N l c most).2=0:=by simpa using c18
  exact dB [J] Tryz.results162 rfl rfl aC ⟨aa,J,by unfold i5;rw [e0],rfl,by unfold i5;simp only;rw [List.length_take,Nat.min_eq_left aA];exact O⟩
def gZ (keep:List Bool):List Int:=gB id keep
def iI (keep:List Bool) (v:Nat):Nat:=(gZ (keep.take v)).length
def subArc (keep:List Bool) (x:Arc):Arc:=⟨iI keep x.src.toNat,iI keep x.dst.toNat,x.wt⟩
def kin (keep:List Bool) (x:Arc):Bool:=keep.getD x.src.toNat false&&keep.getD x.dst.toNat false
def fL (keep:List Bool) (l:List Arc):List Arc:=(l.filter (kin keep)).map (subArc keep)
theorem verts_all {keep:List Bool} {k:Nat} (h:keep.length≤k):gZ (keep.take k)=gZ keep:=by rw [List.take_of_length_le h]
theorem verts_yes {keep:List Bool} {k:Nat} (h:k<keep.length) (hk:keep[k]=true):gZ (keep.take (k+1))=gZ (keep.take k)++[(k:Int)]:=nU (p:=id) h hk
theorem verts_no {keep:List Bool} {k:Nat} (h:k<keep.length) (hk:keep[k]=false):gZ (keep.take (k+1))=gZ (keep.take k):=lU (p:=id) h hk
theorem verts_le (keep:List Bool):(gZ keep).length≤keep.length:=by unfold gZ;rw [kS];exact List.countP_le_length
theorem verts_take_le (keep:List Bool) (k:Nat):(gZ (keep.take k)).length≤k:=Nat.le_trans (verts_le _) (List.length_take_le _ _)
def Numbers (ents:List (Int×Value×Nat)) (keep:List Bool) (k:Nat):Prop:=∀ j (h:j<keep.length),j<k→keep[j]=true→eS ents (j:Int)=some (.int .i64 (iI keep j:Int))
theorem numbers_start (keep:List Bool):Numbers [] keep 0:=fun j h hj=>aA
theorem numbers_yes {ents:List (Int×Value×Nat)} {keep:List Bool} {k c:Nat} (h:k<keep.length) (hn:Numbers ents keep k) (hk:keep[k]=true):Numbers (fW ents (k:Int) (.int .i64 ((gZ (keep.take k)).length:Int)) c) keep (k+1):=fun j hj J F=>by
 rw [jI]
 by_cases e:j=k
 ·subst e;rw [if_pos rfl];rfl
 ·rw [if_neg aA];exact hn j hj aA F
theorem numbers_no {ents:List (Int×Value×Nat)} {keep:List Bool} {k:Nat} (h:k<keep.length) (hn:Numbers ents keep k) (hk:keep[k]=false):Numbers ents keep (k+1):=fun j hj J F=>by
 by_cases e:j=k
 ·subst e;rw [hk] at F;cases F
 ·exact hn j hj aA F
theorem look_num {ents:List (Int×Value×Nat)} {keep:List Bool} (hn:∀ (j:Nat) (h:j<keep.length),keep[j]=true→eS ents (j:Int)=some (.int .i64 (iI keep j:Int))) {x:Int} (F:0≤x) (h:x.toNat<keep.length) (hk:keep[x.toNat]=true) {z:Value}:
  (eS ents x).getD z= .int .i64 (iI keep x.toNat:Int):=by
 have:=hn x.toNat h hk
 rw [show ((x.toNat:Nat):Int)=x from by omega] at this;rw [this];rfl
theorem kin_get {keep:List Bool} {x:Arc} (h1:x.src.toNat<keep.length) (h2:x.dst.toNat<keep.length):kin keep x=(keep[x.src.toNat]&&keep[x.dst.toNat]):=by
 simp [kin,List.getD_eq_getElem?_getD,h1,h2]
theorem sub_yes {keep:List Bool} {l:List Arc} {k:Nat} (hk:k<l.length) (h:kin keep l[k]=true):fL keep (l.take (k+1))=fL keep (l.take k)++[subArc keep l[k]]:=by
 unfold fL;rw [List.take_succ_eq_append_getElem hk,List.filter_append,List.map_append];simp [h]
theorem sub_no {keep:List Bool} {l:List Arc} {k:Nat} (hk:k<l.length) (h:kin keep l[k]=false):fL keep (l.take (k+1))=fL keep (l.take k):=by
 unfold fL;rw [List.take_succ_eq_append_getElem hk,List.filter_append,List.map_append];simp [h]
theorem sub_len (keep:List Bool) (l:List Arc):(fL keep l).length≤l.length:=by unfold fL;rw [List.length_map];exact List.length_filter_le _ _
theorem idxs_len_le {α:Type} (p:α→Bool) (l:List α):(gB p l).length≤l.length:=by rw [kS];exact List.countP_le_length
theorem sub_take_le (keep:List Bool) (l:List Arc) (k:Nat):(fL keep (l.take k)).length≤k:=Nat.le_trans (sub_len _ _) (List.length_take_le _ _)
theorem idxs_take_le {α:Type} (p:α→Bool) (l:List α) (k:Nat):(gB p (l.take k)).length≤k:=Nat.le_trans (idxs_len_le _ _) (List.length_take_le _ _)
def nF (N:Int) (l:List Arc) (keep:List Bool) (u:Value) (own:List Seg):Prop:=
 if (cL N l).2≠0 then u= .tuple #[.agg #[.int .i64 0,.slice none 0 0],.slice none 0 0,.slice none 0 0,.int .i64 (cL N l).2]∧own=[]
 else if (keep.length:Int)≠N then u= .tuple #[.agg #[.int .i64 0,.slice none 0 0],.slice none 0 0,.slice none 0 0,.int .i64 4]∧own=[]
 else if (gZ keep).length=0 then u= .tuple #[.agg #[.int .i64 0,.slice none 0 0],.slice none 0 0,.slice none 0 0,.int .i64 5]∧own=[]
 else ∃ sa sv sl ma mv ml,u= .tuple #[.agg #[.int .i64 (gZ keep).length,sa],sv,sl,.int .i64 0]∧own=[ma,mv,ml]∧
  Own 69 3 sa (fL keep l).length ((fL keep l).flatMap cH) ma∧Own 3 1 sv (gZ keep).length (a8 (gZ keep)) mv∧Own 3 1 sl (gB (kin keep) l).length (a8 (gB (kin keep) l)) ml
theorem Induced_spec (N:Int) (A:Option Addr) (l:List Arc) (cap:Nat) (B:Option Addr) (keep:List Bool) (cb:Nat) (w:World) (hr:Ro (Fr w []) w A (l.flatMap cH)) (hk:Ro (Fr w []) w B (keep.map .bool)) (hl:l.length≤9223372036854775807) (hN:I64 N) (hok:∀ x∈l,eN x):
    Meets Tryz.prog 136 [.agg #[.int .i64 N,.slice A l.length cap],.slice B keep.length cb] w [] (nF N l keep):=by
 refine bG Tryz.func136 rfl Tryz.ntmps136 rfl Owns.nil<|aG fun kh1=>f_S (cZ rfl rfl fun b2=>?_)
 refine f_S (cX Tryz.zeroValue24 rfl fun b4=>?_);refine aB 3 rfl<|aD kh1<|aV fun kh2=>aG fun kh3=>f_Q (aQ (vs:=[_,_]) Tryz.isAgg24 Tryz.sizeOf24 rfl rfl ⟨(rdA rfl),(rdA rfl),trivial⟩) ?_
 refine f_S (aW Tryz.call20 rfl (fun w_ ay=>gF N A l cap w_ (hr.up0 ay) hl hN hok) ?_);rintro _ _ ⟨rfl,rfl⟩;dsimp only [aK,aJ];refine aB 5 rfl<|aD kh3<|aG fun kh4=>aB 2 rfl<|aD kh4<|aX rfl (fun c21=>?_) (fun c21=>?_)
 ·refine aG fun ax=>f_Q (dU st24 rfl rfl)<|aB 1 rfl<|f_Z (bS Tryz.sizeOf24 rfl rfl rfl rfl cG _ rfl ?_)
  refine aB 3 rfl<|aD ax<|aZ<|dA ?_
  exact f_finR4 [] Tryz.results136 (rvA (vs:=[.int .i64 0,.slice none 0 0]) Tryz.isAgg24 Tryz.sizeOf24 rfl rfl ⟨(rdA rfl),(rdA rfl),trivial⟩) (rv rfl) (rv rfl) (rv rfl) aP (by unfold nF;rw [if_pos (by simpa using c21)];exact ⟨rfl,rfl⟩)
 ·have bf:(cL N l).2=0:=by simpa using c21
  obtain ⟨bM,bq,hlen,ag⟩:=cF bf
  refine bZ kh2<|aV fun kh6=>aG fun kh7=>aB 1 rfl<|dY n4 rfl<|cN eV rfl<|c7 Tryz.isAgg3 rfl (rdA rfl)<|aB 1 rfl<|aD kh7<|aX rfl (fun c28=>?_) (fun c28=>?_)
  ·refine aG fun bg=>f_Q (dU st24 rfl rfl)<|f_Z (bS Tryz.sizeOf24 rfl rfl rfl rfl cG _ rfl ?_)
   refine aB 3 rfl<|aD bg<|aZ<|dA ?_
   exact f_finR4 [] Tryz.results136 (rvA (vs:=[.int .i64 0,.slice none 0 0]) Tryz.isAgg24 Tryz.sizeOf24 rfl rfl ⟨(rdA rfl),(rdA rfl),trivial⟩) (rv rfl) (rv rfl) (rv rfl) aP (by unfold nF;rw [if_neg (by simpa using c21),if_pos aA];exact ⟨rfl,rfl⟩)
  ·have bE:(keep.length:Int)=N:=aA
   refine bZ kh6<|aG fun kh9=>f_S (iY fun ap=>?_)
   refine aB 1 rfl<|aD kh9<|aV fun kh10=>aG fun ao=>aB 1 rfl<|dY n4 rfl<|aB 1 rfl<|aD ao<|aS ?_
   refine dF (α:=Nat×List (Int×Value×Nat)×Nat×Value×Seg) [1,2,4,6,10,31,32] (fun ⟨k,ents,O,v5,m5⟩=>[(33,.int .i64 (k:Int)),(5,v5)]) (fun ⟨k,ents,O,v5,m5⟩=>[[(ap,e9 (fun x:Int=> .int .i64 x) ents O)],m5,[(b2,blk [.int .i64 N,.slice A l.length cap] 24)],[(b4,blk [.int .i64 0,.slice none 0 0] 24)]]) (fun ⟨k,ents,O,v5,m5⟩=>k≤keep.length∧Own 3 1 v5 (gZ (keep.take k)).length (a8 (gZ (keep.take k))) m5∧Numbers ents keep k) (fun ⟨k,ents,O,v5,m5⟩=>keep.length - k) (0,[],0,.slice none 0 0,[]) ?_ ?_ ?_ ?_
   ·exact aF
   ·exact aC
   ·exact ⟨aA,Own.nil _ _,numbers_start keep⟩
   ·rintro ⟨k,ents,O,v5,m5⟩ ⟨bw,ab,ac⟩;obtain ⟨A5,bi,rfl,bL⟩:=ab.val
    have bp:=verts_take_le keep k
    refine aG fun kh12=>aB 1 rfl<|aD kh12<|aV fun kh13=>aX rfl (fun bh=>?_) (fun bh=>?_)
    ·refine bZ kh13<|aV fun kh14=>aS<|aG fun kh15=>aB 1 rfl ?_
     have hkk:k<keep.length:=aA
     obtain ⟨bk,ok,rfl,ae,ad⟩:=hk (gX hkk)
     refine f_Q (aM n4 rfl rfl (ok+k))<|f_Q (aH Tryz.isAgg4 rfl (eC (enc:=Value.bool) ae ad hkk))<|aB 2 rfl<|aD kh15<|aG fun kh16=>aB 1 rfl<|aD kh16<|e8 rfl (fun c38=>?_) (fun c38=>?_)
     ·refine aG fun am=>aB 3 rfl<|dY bU rfl<|f_Z (fB kt201 rfl rfl rfl rfl ?_)
      refine aD am<|aI<|aB 2 rfl<|f_S (bX eO aA rfl rfl rfl fun b45=>?_)
      refine f_S (dJ eO rfl rfl ab (ys:=[.int .i64 (k:Int)]) ⟨(rdA rfl),trivial⟩ rfl rfl aA aA fun v46 a2 av=>?_);refine aB 1 rfl<|aY<|dI<|bP kh14<|aI<|f_Q (bF rfl rfl)<|aB 1 rfl<|aY ?_
      refine cV (a6 (k+1,fW ents (k:Int) (.int .i64 ((gZ (keep.take k)).length:Int)) O,fM ents (k:Int) O,v46,a2) (by first|omega|(dsimp only;omega)|(simp;omega)) ⟨aA,by rw [verts_yes hkk (by simpa using c38),eL,List.length_append];exact av,numbers_yes hkk ac (by simpa using c38)⟩ ?_ ?_ ?_)
      ·exact aF
      ·exact aF
      ·exact aC
     ·refine dZ<|dI<|bP kh14<|aI<|f_Q (bF rfl rfl)<|aB 1 rfl<|aY ?_
      refine cV (a6 (k+1,ents,O,_,m5) (by first|omega|(dsimp only;omega)|(simp;omega)) ⟨aA,by rw [verts_no hkk (by simpa using c38)];exact ab,numbers_no hkk ac (by simpa using c38)⟩ ?_ ?_ ?_)
      ·exact aF
      ·exact aF
      ·exact aC
    ·refine cS<|cU<|cU<|eH<|bP kh10<|aV fun kh18=>aG fun ak=>aB 1 rfl<|dY bU rfl<|aB 1 rfl ?_
     refine aD ak<|aX rfl (fun c50=>?_) (fun c50=>?_)
     ·refine aG fun ah=>f_Q (dU st24 rfl rfl)<|f_Z (bS Tryz.sizeOf24 rfl rfl rfl rfl cG _ rfl ?_)
      refine aB 3 rfl<|aD ah<|aZ<|dA ?_
      exact f_finR4 [] Tryz.results136 (rvA (vs:=[.int .i64 0,.slice none 0 0]) Tryz.isAgg24 Tryz.sizeOf24 rfl rfl ⟨(rdA rfl),(rdA rfl),trivial⟩) (rv rfl) (rv rfl) (rv rfl) aP (by unfold nF;rw [if_neg (by simpa using c21),if_neg aA,if_pos (by rw [verts_all aA] at c50;omega)];exact ⟨rfl,rfl⟩)
     ·have aw:¬ (gZ keep).length=0:=by rw [verts_all aA] at c50;omega
      refine bZ kh18<|aG fun kh21=>aB 1 rfl<|dY bU rfl<|cN eV rfl<|f_Z (bQ Tryz.sizeOf3 rfl rfl rfl rfl cG _ rfl ?_)
      refine aD kh21<|aV fun kh22=>aV fun al=>?_
      have Z:∀ j (h:j<keep.length),keep[j]=true→eS ents (j:Int)=some (.int .i64 (iI keep j:Int)):=fun j h hj=>ac j h aA hj
      refine aI<|cN gM rfl<|c7 Tryz.isAgg22 rfl (rdA rfl)<|dY j7 rfl<|aB 1 rfl<|aD al<|aS ?_
      refine dF (α:=Nat×Value×Seg×Value×Seg) [1,4,5,10,56,57] (fun ⟨i,sa,ma,v6,m6⟩=>[(58,.int .i64 (i:Int)),(6,v6)]) (fun ⟨i,sa,ma,v6,m6⟩=>[[(b4,blk [.int .i64 (gZ (keep.take k)).length,sa] 24)],ma,m6,m5,[(ap,e9 (fun x:Int=> .int .i64 x) ents O)],[(b2,blk [.int .i64 N,.slice A l.length cap] 24)]]) (fun ⟨i,sa,ma,v6,m6⟩=>i≤l.length∧Own 69 3 sa (fL keep (l.take i)).length ((fL keep (l.take i)).flatMap cH) ma∧Own 3 1 v6 (gB (kin keep) (l.take i)).length (a8 (gB (kin keep) (l.take i))) m6) (fun ⟨i,sa,ma,v6,m6⟩=>l.length - i) (0,.slice none 0 0,[],.slice none 0 0,[]) ?_ ?_ ?_ ?_
      ·exact aF
      ·exact aC
      ·exact ⟨aA,Own.nil _ _,Own.nil _ _⟩
      ·rintro ⟨i,sa,ma,v6,m6⟩ ⟨bR,X,Y⟩;have br:=sub_take_le keep l i
       have bD:=idxs_take_le (kin keep) l i
       obtain ⟨Aa,aj,rfl,bu⟩:=X.val
       obtain ⟨A6,bj,rfl,bt⟩:=Y.val
       refine fJ (e:=[(58,_),(6,_),(1,_),(4,_),(5,_),(10,_),(56,_),(57,_)]) aF ?_;refine aG fun kh24=>aB 1 rfl<|aD kh24<|aV fun kh25=>aX rfl (fun aq=>?_) (fun aq=>?_)
       ·refine bZ kh25<|aV fun kh26=>aS<|aG fun kh27=>aB 1 rfl ?_
        have J:i<l.length:=aA
        obtain ⟨bl,off,rfl,hS,hc⟩:=hr (fH cH dO aA J)
        obtain ⟨a1,bv,az,bB⟩:=ag i J
        have U:l[i].src.toNat<keep.length:=aA
        have aa:l[i].dst.toNat<keep.length:=aA
        obtain ⟨bk,ok,rfl,ae,ad⟩:=hk (gX U)
        refine f_Q (aM j7 rfl rfl (off+i*3))<|f_Q (aQ (vs:=cH l[i]) Tryz.isAgg69 Tryz.sizeOf69 rfl rfl (gV dO hS hc J))<|f_S (cX Tryz.zeroValue69 rfl fun b14=>?_)
        refine aB 1 rfl<|f_Z (bS Tryz.sizeOf69 rfl rfl rfl rfl cG _ rfl ?_)
        refine aD kh27<|aG fun kh28=>aB 1 rfl<|cN gC rfl<|c7 Tryz.isAgg3 rfl (rdA rfl)<|f_Q (aM n4 rfl rfl (ok+l[i].src.toNat))<|f_Q (aH Tryz.isAgg4 rfl (eC (enc:=Value.bool) ae ad U))<|aB 1 rfl<|nD 68 rfl (fun g68=>?_) (fun g68=>?_)
        ·refine aB 1 rfl<|eI rfl rfl (aT fT rfl)<|eI rfl rfl (aH Tryz.isAgg3 rfl (rdA rfl))<|eI rfl rfl (aM n4 rfl rfl (ok+l[i].dst.toNat))<|eI rfl rfl (aH Tryz.isAgg4 rfl (eC (enc:=Value.bool) ae ad aa))<|aB 1 rfl<|aD kh28<|e8 rfl (fun c74=>?_) (fun c74=>?_)
         ·have F:kin keep l[i]=true:=by rw [kin_get U aa,g68,c74];rfl
          refine aG fun an=>cN gM rfl<|c7 Tryz.isAgg22 rfl (rdA rfl)<|aB 1 rfl<|cN gC rfl<|c7 Tryz.isAgg3 rfl (rdA rfl)<|f_Q (fG kt201 Tryz.zeroValue3 rfl rfl rfl (.int .i64 (iI keep l[i].src.toNat:Int)) (by rw [look_num Z a1 U g68])) ?_
          refine aB 1 rfl<|cN fT rfl<|c7 Tryz.isAgg3 rfl (rdA rfl)<|f_Q (fG kt201 Tryz.zeroValue3 rfl rfl rfl (.int .i64 (iI keep l[i].dst.toNat:Int)) (by rw [look_num Z az aa (by simpa using c74)])) ?_
          refine cN fa69_2 rfl<|c7 Tryz.isAgg56 rfl (rdA rfl)<|f_Q (dU (cs:=cH (subArc keep l[i])) st69 rfl rfl)<|f_S (bX el22 aA rfl rfl rfl fun b88=>?_)
          refine f_S (dJ el22 rfl rfl X (ys:=cH (subArc keep l[i])) ⟨(rdA rfl),(rdA rfl),(rdA rfl),trivial⟩ rfl rfl aA aA fun bC ba ai=>?_);obtain ⟨bK,au,rfl,_⟩:=ai.val
          refine cN gM rfl<|f_Z (bQ Tryz.sizeOf22 rfl rfl rfl rfl cG _ rfl ?_)
          refine aD an<|aI<|aB 2 rfl<|f_S (bX eO aA rfl rfl rfl fun b93=>?_)
          refine f_S (dJ eO rfl rfl Y (ys:=[.int .i64 (i:Int)]) ⟨(rdA rfl),trivial⟩ rfl rfl aA aA fun ar be bc=>?_);refine aB 1 rfl<|aY<|dI<|bP kh26<|aI<|f_Q (bF rfl rfl)<|aB 1 rfl<|aY ?_
          refine cV (a6 (i+1,_,ba,ar,be) (by first|omega|(dsimp only;omega)|(simp;omega)) ⟨aA,by rw [sub_yes J F,List.flatMap_append,List.length_append];simpa using ai,by rw [nU J F,eL,List.length_append];exact bc⟩ ?_ ?_ ?_)
          ·exact aF
          ·exact aF
          ·exact aC
         ·have F:kin keep l[i]=false:=by rw [kin_get U aa,g68,c74];rfl
          refine dZ<|dI<|bP kh26<|aI<|f_Q (bF rfl rfl)<|aB 1 rfl<|aY ?_
          refine cV (a6 (i+1,_,ma,_,m6) (by first|omega|(dsimp only;omega)|(simp;omega)) ⟨aA,by rw [sub_no J F];exact X,by rw [lU J F];exact Y⟩ ?_ ?_ ?_)
          ·exact aF
          ·exact aF
          ·exact aC
        ·have F:kin keep l[i]=false:=by rw [kin_get U aa,g68];rfl
         refine aB 6 rfl<|aD kh28<|h7 rfl<|dZ<|dI<|bP kh26<|aI<|f_Q (bF rfl rfl)<|aB 1 rfl<|aY ?_
         refine cV (a6 (i+1,_,ma,_,m6) (by first|omega|(dsimp only;omega)|(simp;omega)) ⟨aA,by rw [sub_no J F];exact X,by rw [lU J F];exact Y⟩ ?_ ?_ ?_)
         ·exact aF
         ·exact aF
         ·exact aC
       ·refine cS<|cU<|cU<|eH<|bP kh22<|aG fun kh30=>f_Q (aQ (vs:=[_,_]) Tryz.isAgg24 Tryz.sizeOf24 rfl rfl ⟨(rdA rfl),(rdA rfl),trivial⟩)<|aB 2 rfl<|f_Z (bS Tryz.sizeOf24 rfl rfl rfl rfl cG _ rfl ?_)
        refine aB 3 rfl<|aD kh30<|aZ ?_
        have et:l.take i=l:=List.take_of_length_le aA
        rw [et] at X Y;have ev:=verts_all (keep:=keep) (k:=k) aA
        rw [ev] at ab;exact f_finR4 [ma,m5,m6] Tryz.results136 (rvA (vs:=[.int .i64 (gZ (keep.take k)).length,.slice Aa (fL keep (l.take i)).length aj]) Tryz.isAgg24 Tryz.sizeOf24 rfl rfl ⟨(rdA rfl),(rdA rfl),trivial⟩) (rv rfl) (rv rfl) (rv rfl) (by repeat (first|exact aP|refine aL ?_)) (by unfold nF;rw [if_neg (by simpa using c21),if_neg aA,if_neg aw];exact ⟨_,_,_,_,_,_,by rw [ev,et],rfl,X,ab,Y⟩)
structure RegOk (n:Nat) (l:List Arc) (c mn:Nat) (L:List Int):Prop where
 is:L=(bfs n (fun v:Nat=>dS (v:Int) l) c (List.replicate n false)).1.take mn
 c:c<n
 m:1≤mn∧mn≤1024
 rng:∀ x∈L,0≤x∧x<(n:Int)
 nd:L.Nodup
theorem reg_ok {N:Int} {l:List Arc} {c most:Int} (h:(eX N l c most).2=0):(cL N l).2=0∧∃ n J F:Nat,N=(n:Int)∧c=(J:Int)∧most=(F:Int)∧RegOk n l J F (eX N l c most).1:=by
 unfold eX at h ⊢
 by_cases h1:(cL N l).2≠0
 ·rw [if_pos h1] at h;exact absurd h h1
 ·by_cases h2:c<0∨N≤c
  ·rw [if_neg h1,if_pos h2] at h;cases h
  ·by_cases h3:most<1∨1024<most
   ·rw [if_neg h1,if_neg h2,if_pos h3] at h;cases h
   ·rw [if_neg h1,if_neg h2,if_neg h3]
    have hg:(cL N l).2=0:=aA
    have hz:=cF hg
    obtain ⟨n,rfl⟩:∃ n:Nat,N=(n:Int):=⟨N.toNat,aA⟩
    have O:=BInv.go (pL hg).2 (BInv.start (n:=n) (c:=c.toNat) (b:=List.replicate n false) aO aA) n
    refine ⟨hg,n,c.toNat,most.toNat,rfl,aA,aA,rfl,aA,aA,fun x hx=>O.rng x (List.mem_of_mem_take hx),?_⟩;exact O.nd.sublist (List.take_sublist _ _)
theorem fidx_cases {α:Type} (p:α→Bool) (l:List α):(fidx p l= -1∧∀ x∈l,p x=false)∨∃ k,∃ hk:k<l.length,fidx p l=(k:Int)∧p l[k]=true∧∀ j (h:j<l.length),j<k→p l[j]=false:=by
 unfold fidx
 cases hf:l.findIdx? p with
 |none=>exact .inl ⟨rfl,fun x hx=>by rw [List.findIdx?_eq_none_iff] at hf;exact hf x hx⟩
 |some k=>
  rw [List.findIdx?_eq_some_iff_getElem] at hf;obtain ⟨hk,h1,h2⟩:=hf
  exact .inr ⟨k,hk,rfl,h1,fun j h hj=>by have:=h2 j hj;simpa using this⟩
theorem del_start {α:Type} {p:α→Bool} {l:List α} {k:Nat} (hk:k<l.length) (h:p l[k]=true) (F:∀ j (h:j<l.length),j<k→p l[j]=false):l.take k=(l.take (k+1)).filter (fun x=> !p x):=by
 rw [List.take_succ_eq_append_getElem hk,List.filter_append]
 have e1:(l.take k).filter (fun x=> !p x)=l.take k:=List.filter_eq_self.2 fun x hx=>by
  obtain ⟨i,hi,rfl⟩:=List.mem_iff_getElem.1 hx
  have hi' :i<k:=by simp at hi;omega
  rw [List.getElem_take,F i aA hi'];rfl
 rw [e1];simp [h]
theorem del_keep {α:Type} {p:α→Bool} {l d:List α} {i j:Nat} (hj:j<l.length) (J:i<j) (hd:d.length=l.length) (O:d.take i=(l.take j).filter (fun x=> !p x)) (F:d.drop j=l.drop j) (h:p l[j]=false):
  (d.set i l[j]).take (i+1)=(l.take (j+1)).filter (fun x=> !p x)∧(d.set i l[j]).drop (j+1)=l.drop (j+1):=by
 refine ⟨?_,?_⟩
 ·rw [List.take_succ_eq_append_getElem hj,List.filter_append,← O,List.take_succ_eq_append_getElem (show i<(d.set i l[j]).length by simp;omega),List.getElem_set_self,List.take_set_of_le (Nat.le_refl _)]
  simp [h]
 ·rw [List.drop_set_of_lt aA,← List.drop_drop,← List.drop_drop,F]
theorem del_skip {α:Type} {p:α→Bool} {l d:List α} {i j:Nat} (hj:j<l.length) (J:d.take i=(l.take j).filter (fun x=> !p x)) (F:d.drop j=l.drop j) (h:p l[j]=true):d.take i=(l.take (j+1)).filter (fun x=> !p x)∧d.drop (j+1)=l.drop (j+1):=by
 refine ⟨?_,by rw [← List.drop_drop,← List.drop_drop,F]⟩;rw [List.take_succ_eq_append_getElem hj,List.filter_append,← J];simp [h]
theorem del_at {α : Type} {l d : List α} {j : Nat} (hj : j < l.length) (hd : d.length = l.length) (F : d.drop j = l.drop j) : d[j]'aA = l[j] := by
 have:=congrArg (fun x=>x[0]?) F
 simpa [hj,hd] using this
theorem del_zero {α:Type} {enc:α→List Value} {sz:Nat} (hs:∀ x,(enc x).length=sz) {d:List α} {i:Nat} (hi:i≤d.length) (sp ys:List Value) (hy:ys.length=(d.length - i)*sz):jM (d.flatMap enc++sp) (i*sz) ys=(d.take i).flatMap enc++(ys++sp):=by
 have e:d.flatMap enc++sp=(d.take i).flatMap enc++((d.drop i).flatMap enc++sp):=by rw [← List.append_assoc,← List.flatMap_append,List.take_append_drop]
 rw [e];exact kV ys _ _ _ _ (by rw [dX enc hs,List.length_take,Nat.min_eq_left hi]) (by rw [dX enc hs,hy,List.length_drop])
theorem heldFrN {S:Nat→Prop} {w0 w w' :World} {own fr:List Seg} {b:Nat} {cs:List Value} {T:TypeId} {f:Seg→List Seg} [h:At fr b (blk cs T) f] (hp:Hp S w0 (own++fr).flatten w) (hs:∀ k,Fr w own k→w'.heap[k]? =w.heap[k]?):Ro (Fr w' []) w' (some ⟨b,0,none⟩) cs:=fun X=>by
 have hm:(b,blk cs T)∈(own++fr).flatten:=by rw [List.flatten_append];exact List.mem_append_right _ h.mem
 have hb:=hp.own b _ hm
 have hlt:=hp.key_lt hm
 have hn:=hp.nodup
 rw [List.flatten_append,List.map_append] at hn;have J:b∉own.flatten.map (·.1):=fun hx=>(List.nodup_append.1 hn).2.2 b hx b (List.mem_map.2 ⟨_,h.mem,rfl⟩) rfl
 have U:=hs b ⟨hlt,J⟩
 have F:w'.heap[b]? =some (blk cs T):=by rw [U,hb]
 have O:b<w'.heap.size:=by
  rcases Nat.lt_or_ge b w'.heap.size with h' |h'
  ·exact h'
  ·rw [Array.getElem?_eq_none h'] at F;cases F
 refine ⟨b,0,rfl,⟨O,aO⟩,fun j v hj=>?_⟩;rw [Nat.zero_add];simp [World.cell?,F,hj]
def qK (reg:List Int) (c n:Nat):Nat→List Int
 |0=>List.replicate n 1
 |k+1=>(qK reg c n k).set (reg.getD k 0).toNat (if k<c then 0 else 2+(k:Int) - (c:Int))
theorem ndTo_succ (reg:List Int) (c n k:Nat):qK reg c n (k+1)=(qK reg c n k).set (reg.getD k 0).toNat (if k<c then 0 else 2+(k:Int) - (c:Int)):=rfl
theorem ndTo_len (reg:List Int) (c n:Nat):∀ k,(qK reg c n k).length=n
 |0=>by simp [qK]
 |k+1=>by unfold qK;rw [List.length_set,ndTo_len reg c n k]
theorem ndTo_rng (reg:List Int) (c n m:Nat) (hc:c≤m):∀ k,k≤m→∀ x∈qK reg c n k,0≤x∧x<2+(m:Int) - (c:Int)
 |0,_,x,hx=>by
  have:=List.eq_of_mem_replicate hx
  omega
 |k+1,h,x,hx=>by
  unfold qK at hx
  rcases List.mem_or_eq_of_mem_set hx with h1|h1
  ·exact ndTo_rng reg c n m hc k aA x h1
  ·subst h1;split<;>omega
def fR (n:Nat) (l:List Arc) (c most:Int):List Int:=qK (eX (n:Int) l c most).1 (i5 (n:Int) l c most).1.length n (eX (n:Int) l c most).1.length
def kB (n:Nat) (l:List Arc) (c most:Int):Int:=2+((eX (n:Int) l c most).1.length:Int) - ((i5 (n:Int) l c most).1.length:Int)
def nd (L:List Int) (u:Int):Int:=L.getD u.toNat 0
theorem nd_at {L:List Int} {u:Int} (h:u.toNat<L.length):nd L u=L[u.toNat]:=by simp [nd,h]
def oW (ps:List Pr) (L:List Int):List Arc:=ps.flatMap fun p=>if nd L p.1≠nd L p.2 then [⟨nd L p.1,nd L p.2,1⟩,⟨nd L p.2,nd L p.1,1⟩] else []
theorem cutE_next {ps:List Pr} {L:List Int} {k:Nat} (h:k<ps.length):oW (ps.take (k+1)) L=oW (ps.take k) L++if nd L ps[k].1≠nd L ps[k].2 then [⟨nd L ps[k].1,nd L ps[k].2,1⟩,⟨nd L ps[k].2,nd L ps[k].1,1⟩] else []:=by
 unfold oW;rw [List.take_succ_eq_append_getElem h,List.flatMap_append];simp
theorem cutE_len (L:List Int):∀ ps:List Pr,(oW ps L).length≤2*ps.length
 |[]=>by simp [oW]
 |p::ps=>by
  have ih:=cutE_len L ps
  unfold oW at ih ⊢
  rw [List.flatMap_cons,List.length_append]
  split
  ·simp only [List.length_cons,List.length_nil];omega
  ·simp only [List.length_cons,List.length_nil];omega
theorem cutE_ok {L:List Int} {ps:List Pr} (h:∀ u:Int,I64 (nd L u)):∀ x∈oW ps L,eN x:=fun x hx=>by
 obtain ⟨p,_,hp⟩:=List.mem_flatMap.1 hx
 split at hp
 ·simp only [List.mem_cons,List.not_mem_nil,or_false] at hp
  rcases hp with rfl|rfl
  ·exact ⟨h _,h _,by show (0:Int)≤1;omega,by show (1:Int)≤4294967295;omega⟩
  ·exact ⟨h _,h _,by show (0:Int)≤1;omega,by show (1:Int)≤4294967295;omega⟩
 ·cases hp
def ncE (N:Int) (l:List Arc) (c most:Int):Int:=if (eX N l c most).2≠0 then (eX N l c most).2 else if ((eX N l c most).1.length:Int)=N then 0 else gS (kB N.toNat l c most) (oW (prs N.toNat l) (fR N.toNat l c most)) 0 1
def cutB (L:List Int) (sd:List Bool) (p:Pr):Bool:=decide (sd.getD (nd L p.1).toNat false=sd.getD (nd L p.2).toNat false)
theorem reg_rngN {N:Int} {l:List Arc} {c most:Int} (h:(eX N l c most).2=0):∀ x∈(eX N l c most).1,0≤x∧x<N:=by
 obtain ⟨_,n,J,F,rfl,rfl,rfl,hok⟩:=reg_ok h
 exact hok.rng
theorem I64_nd {L:List Int} {m:Int} (hm:m≤1000000) (h:∀ x∈L,0≤x∧x<m) (u:Int):I64 (nd L u):=by
 unfold nd
 rw [List.getD_eq_getElem?_getD]
 cases e:L[u.toNat]? with
 |none=>exact ⟨by decide,by decide⟩
 |some v=>have:=h v (List.mem_of_getElem? e);exact ⟨by simp;omega,by simp;omega⟩
def NcΦ (n:Nat) (l:List Arc) (c most:Int) (C:List Pr):Prop:=
 ((eX (n:Int) l c most).1.length=n→C=[])∧
 ((eX (n:Int) l c most).1.length≠n→∃ (f:List Int) (V:Int) (sd:List Bool),sd.length=(kB n l c most).toNat∧Flow (kB n l c most).toNat (oW (prs n l) (fR n l c most)) 0 1 f V∧Side (kB n l c most).toNat (oW (prs n l) (fR n l c most)) 0 1 f (fun v=>sd.getD v false)∧C=(prs n l).filter fun p=> !cutB (fR n l c most) sd p)
theorem regR_rng {N:Int} {l:List Arc} {c most:Int} (h:(eX N l c most).2=0):(cL N l).2=0:=by
 unfold eX at h
 by_cases h1:(cL N l).2=0
 ·exact h1
 ·rw [if_pos h1] at h;exact absurd h h1
theorem DelP_spec_ix (A:Option Addr) (l:List Pr) (cap:Nat) (O:FuncId) (J:List Value) (p:Pr→Bool) (w:World) (hr:Ro (Fr w []) w A (l.flatMap fF)) (hl:l.length≤1000000000)
    (Z:∀ args w,(callFunc O args).run Tryz.prog w= .ok (.enter O args) w)
    (Y:∀ w',(∀ k,Fr w [] k→w'.heap[k]? =w.heap[k]?)→∀ x∈l,Meets Tryz.prog O ([.agg (fF x).toArray]++J) w' [] (fun u m=>u= .bool (p x)∧m=[])):
    Meets Tryz.prog 179 [.slice A l.length cap,.func (.func O) #[] J.toArray] w [] (fun u own' =>u= .int .i64 (fidx p l)∧own' =[]):=by
 refine bG Tryz.func179 rfl Tryz.ntmps179 rfl Owns.nil<|aG fun kh1=>aB 1 rfl<|aD kh1<|aV fun kh2=>aG fun U=>aB 1 rfl<|dY iB rfl<|aB 1 rfl<|aD U ?_
 refine aS ?_;refine m4 (α:=Nat) [0,1,7] (fun k=>[(8,.int .i64 (k:Int))]) (fun k=>k≤l.length∧∀ j (h:j<l.length),j<k→p l[j]=false) (fun k=>l.length - k) (0) ?_ ?_ ?_
 ·exact aF
 ·exact ⟨aA,fun j _ h=>aA⟩
 ·rintro k ⟨ab,F⟩;refine aG fun kh4=>aB 1 rfl<|aD kh4<|aV fun kh5=>aX rfl (fun c9=>?_) (fun c9=>?_)
  ·refine bZ kh5<|aV fun kh6=>aS<|aG fun kh7=>aB 2 rfl<|aD kh7<|aG fun kh8=>aB 3 rfl ?_
   have hk:k<l.length:=aA
   obtain ⟨bl,off,rfl,hS,hc⟩:=hr (fH fF e5 aA hk)
   refine f_Q (aM iB rfl rfl (off+k*2))<|f_Q (aQ (vs:=fF l[k]) Tryz.isAgg215 Tryz.sizeOf215 rfl rfl (gV e5 hS hc hk)) ?_;refine f_S (jE [] _ Z rfl rfl Sub.refl (fun w_ X=>(by have h:=Y w_ (fun j hj=>X.same j hj) l[k] (List.getElem_mem hk);exact h)) ?_);rintro _ _ ⟨rfl,rfl⟩;dsimp only [aK,aJ];refine aD kh8<|e8 rfl (fun c16=>?_) (fun c16=>?_)
   ·refine aG fun aa=>aB 2 rfl<|aD aa<|aZ<|fA<|dA<|dA<|fA<|dA ?_
    exact bO [] Tryz.results179 rfl aP ⟨by rw [fidx_at hk (by simpa using c16) F],rfl⟩
   ·refine dZ<|dI<|bP kh6<|aI<|f_Q (bF rfl rfl)<|aB 1 rfl<|aY ?_
    refine cV (a6 (k+1) (by first|omega|(dsimp only;omega)|(simp;omega)) ⟨aA,false_next F (by simpa using c16)⟩ ?_ ?_ ?_)
    ·exact aF
    ·exact aF
    ·exact aC
  ·refine cS<|cU<|cU<|eH<|bP kh2<|aG fun kh10=>aB 1 rfl<|aD kh10<|aZ ?_
   exact bO [] Tryz.results179 rfl aP ⟨by rw [fidx_none (fun j h=>F j h aA)],rfl⟩
theorem DelP_spec (A:Option Addr) (l:List Pr) (cap:Nat) (m:Seg) (fi:FuncId) (Z:List Value) (p:Pr→Bool) (w:World) (ho:Own 215 2 (.slice A l.length cap) l.length (l.flatMap fF) m) (hl:l.length≤100000000)
    (ah:∀ args w,(callFunc fi args).run Tryz.prog w= .ok (.enter fi args) w)
    (ad:∀ w',(∀ k,Fr w [m] k→w'.heap[k]? =w.heap[k]?)→∀ x∈l,Meets Tryz.prog fi ([.agg (fF x).toArray]++Z) w' [] (fun u m=>u= .bool (p x)∧m=[])) (hw:Owns w [m]):
    Meets Tryz.prog 164 [.slice A l.length l.length,.func (.func fi) #[] Z.toArray] w [m] (fun u own' =>∃ (m' :Seg) (A' :Option Addr) (c1 c2:Nat),u= .slice A' (l.filter fun x=> !p x).length c1∧own' =[m']∧(l.filter fun x=> !p x).length≤c1∧c1≤9223372036854775807∧Own 215 2 (.slice A' (l.filter fun x=> !p x).length c2) (l.filter fun x=> !p x).length ((l.filter fun x=> !p x).flatMap fF) m'):=by
 refine bG Tryz.func164 rfl Tryz.ntmps164 rfl hw<|aG fun kh1=>aB 1 rfl<|aD kh1<|aG fun kh2=>aB 2 rfl ?_
 refine f_S (aW Tryz.call179 rfl (fun w_ J=>DelP_spec_ix A l l.length fi Z p w_ (fD (ho.seen J)) aA ah (fun w' hs x hx=>ad w' (fun j hj=>by
   have aq:¬ (Fr w_ [] j)→False:=fun h=>h ⟨Nat.lt_of_lt_of_le (J.lt j hj) J.size,aO⟩
   rw [hs j (Classical.byContradiction aq)];exact J.same j hj) x hx)) ?_)
 rintro _ _ ⟨rfl,rfl⟩;dsimp only [aK,aJ];refine aB 1 rfl<|aD kh2<|aV fun kh3=>aG fun kh4=>aB 2 rfl<|aD kh4<|aX rfl (fun c12=>?_) (fun c12=>?_)
 ·
  have am:∀ x∈l,p x=false:=by
    rcases fidx_cases p l with ⟨_,h⟩|⟨k,hk,h,_⟩
    · exact h
    · omega
  have U:(l.filter fun x=> !p x)=l:=List.filter_eq_self.2 fun x hx=>by rw [am x hx];rfl
  refine aG fun ar=>aB 2 rfl<|aD ar<|aZ<|dA ?_
  exact bO [m] Tryz.results164 rfl (aL aP) ⟨m,A,l.length,cap,by rw [U],rfl,by rw [U];omega,aA,by rw [U];exact ho⟩
 ·
  obtain ⟨k,hk,ak,an,ac⟩:=(fidx_cases p l).resolve_left (fun h=>c12 h.1)
  rw [ak];have al:=del_start hk an ac
  refine bZ kh3<|aV fun kh6=>aG fun au=>aB 1 rfl<|f_Q (bF rfl rfl)<|aB 1 rfl<|aD au<|aS ?_
  refine dF (α:=Nat×Nat×List (Pr)×Seg) [0,1] (fun ⟨i,j,d,m1⟩=>[(5,.int .i64 (i:Int)),(6,.int .i64 (j:Int))]) (fun ⟨i,j,d,m1⟩=>[m1]) (fun ⟨i,j,d,m1⟩=>i<j∧j≤l.length∧d.length=l.length∧d.take i=(l.take j).filter (fun x=> !p x)∧d.drop j=l.drop j∧Own 215 2 (.slice A l.length cap) l.length (d.flatMap fF) m1) (fun ⟨i,j,d,m1⟩=>l.length - j) (k,k+1,l,m) ?_ ?_ ?_ ?_
  · exact aF
  · exact aC
  · exact ⟨aA,aA,rfl,al,rfl,ho⟩
  ·
   rintro ⟨i,j,d,m1⟩ ⟨ag,aw,O,F,ab,Y⟩;obtain ⟨_,_,e_,av⟩:=Y.val
   cases e_
   refine aV fun ao=>aG fun kh9=>aB 2 rfl<|dY iB rfl<|aB 1 rfl<|aD kh9<|aX rfl (fun c19=>?_) (fun c19=>?_)
   ·
    refine bZ ao<|aV fun kh10=>aS<|aV fun kh11=>?_
    have X:j<l.length:=aA
    obtain ⟨b,sp,rfl,rfl,ai⟩:=Y.upd aA
    refine aI<|aB 2 rfl<|f_Q (aM iB rfl rfl (j*2))<|f_Q (aQ (vs:=fF l[j]) Tryz.isAgg215 Tryz.sizeOf215 rfl rfl (by rw [← del_at X O ab];exact jR e5 aA)) ?_
    refine f_S (cX Tryz.zeroValue215 rfl fun b7=>?_);refine f_Z (bS Tryz.sizeOf215 rfl rfl rfl rfl cG (fF l[j]) rfl ?_);refine aD kh11<|aG fun kh12=>aB 1 rfl<|f_Q (aQ (vs:=[_,_]) Tryz.isAgg215 Tryz.sizeOf215 rfl rfl ⟨(rdA rfl),(rdA rfl),trivial⟩) ?_
    refine f_S (jE [] _ ah rfl rfl Sub.refl (fun w_ J=>(by have h:=ad w_ (fun j hj=>J.same j hj) l[j] (List.getElem_mem X);exact h)) ?_);rintro _ _ ⟨rfl,rfl⟩;dsimp only [aK,aJ];refine aB 1 rfl<|aD kh12<|e8 rfl (fun c29=>?_) (fun c29=>?_)
    ·
     have aa:p l[j]=false:=by simpa using c29
     refine aG fun ae=>aB 2 rfl<|f_Q (aQ (vs:=[_,_]) Tryz.isAgg215 Tryz.sizeOf215 rfl rfl ⟨(rdA rfl),(rdA rfl),trivial⟩)<|f_Q (aM iB rfl rfl (i*2))<|f_Z (bS Tryz.sizeOf215 rfl rfl rfl rfl (by show i*2+2≤_;rw [List.length_append,dX fF e5];omega) ((d.set i l[j]).flatMap fF++sp) (jZ e5 sp _ _ _ aA) ?_)
     refine aD ae<|aI<|aB 1 rfl<|f_Q (bF rfl rfl)<|aB 1 rfl<|aY<|dI<|bP kh10<|aI<|aB 1 rfl ?_
     refine f_Q (bF rfl rfl)<|aB 1 rfl<|aY ?_
     refine cV (a6 (i+1,j+1,d.set i l[j],[(b,blk ((d.set i l[j]).flatMap fF++sp) 215)]) (by first|omega|(dsimp only;omega)|(simp;omega)) ⟨aA,aA,by simpa using O,(del_keep X ag O F ab aa).1,(del_keep X ag O F ab aa).2,ai _ (by rw [dX fF e5,dX fF e5,List.length_set])⟩ ?_ ?_ ?_)
     · exact aF
     · exact aF
     · exact aC
    ·
     have aa:p l[j]=true:=by simpa using c29
     refine dZ<|dI<|bP kh10<|aI<|aB 1 rfl<|f_Q (bF rfl rfl)<|aB 1 rfl<|aY ?_
     refine cV (a6 (i,j+1,d,[(b,blk (d.flatMap fF++sp) 215)]) (by first|omega|(dsimp only;omega)|(simp;omega)) ⟨aA,aA,O,(del_skip X F ab aa).1,(del_skip X F ab aa).2,Y⟩ ?_ ?_ ?_)
     · exact aF
     · exact aF
     · exact aC
   ·
    refine cS<|cU<|cU<|eH<|bP kh6<|aV fun kh14=>?_
    obtain ⟨b,sp,rfl,rfl,ai⟩:=Y.upd aA
    have ax:=Y.1
    have aj:sp.length=(cap - l.length)*2:=by
      obtain ⟨_,h|⟨b',c',ap,e,hm,_,_,h3⟩⟩:=Y
      · omega
      · cases e
        have:=List.append_cancel_left (Array.toList_inj.2 (show (d.flatMap fF++sp).toArray=(d.flatMap fF++ap).toArray by simpa using hm))
        rw [this];exact h3
    obtain rfl:j=l.length:=aA
    rw [List.take_length] at F;refine aI<|aB 2 rfl<|f_Q (f7 iB rfl rfl rfl rfl (fun h=>by cases h) i _ _ (.inr ⟨_,_,rfl,aA⟩) (.inl ⟨rfl,rfl⟩) (.inl ⟨rfl,rfl⟩) ⟨aA,aA,aA⟩ (.slice (some ⟨b,i*2,none⟩) (l.length - i) (l.length - i)) (by rw [if_neg aA];simp [dH])) ?_
    refine f_Z (o_clear el154 rfl rfl (by rw [List.length_append,dX fF e5];omega) ((d.take i).flatMap fF++((List.replicate (l.length - i) [.int .i64 0,.int .i64 0]).flatten++sp)) (del_zero e5 aA sp _ (by rw [O];simp)) ?_);refine aD kh14<|aG fun kh15=>aB 2 rfl<|f_Q (f7 iB rfl rfl rfl rfl (fun h=>by cases h) 0 i l.length (.inl ⟨rfl,rfl⟩) (.inr ⟨_,_,rfl,aA⟩) (.inl ⟨rfl,rfl⟩) ⟨aA,aA,aA⟩ (.slice (some ⟨b,0,none⟩) i l.length) (by rw [if_neg aA];simp [dH])) ?_
    refine aB 1 rfl<|aD kh15<|aZ ?_
    have U:(l.filter fun x=> !p x).length=i:=by rw [← F];simp;omega
    exact bO [[(b,blk ((d.take i).flatMap fF++((List.replicate (l.length - i) [.int .i64 0,.int .i64 0]).flatten++sp)) 215)]] Tryz.results164 rfl (by repeat (first|exact aP|refine aL ?_)) ⟨_,some ⟨b,0,none⟩,l.length,cap,by rw [U],rfl,aA,aA,by rw [U,← F];exact ⟨by rw [dX fF e5,List.length_take,Nat.min_eq_left aA],.inr ⟨b,cap,_,rfl,rfl,aA,aA,by rw [List.length_append,aj];simp;omega⟩⟩⟩
theorem CutN1_spec (p:Pr) (ac ab bs bo ns n cn:Nat) (sd:List Bool) (L:List Int) (w:World) (ag:Ro (Fr w []) w (some ⟨ac,0,none⟩) [.slice (some ⟨bs,0,none⟩) ns ns]) (aj:Ro (Fr w []) w (some ⟨ab,0,none⟩) [.slice (some ⟨bo,0,none⟩) n cn]) (hs:Ro (Fr w []) w (some ⟨bs,0,none⟩) (sd.map .bool)) (hn:Ro (Fr w []) w (some ⟨bo,0,none⟩) (a8 L)) (al:sd.length=ns) (ak:L.length=n) (h1:0≤p.1∧p.1<(n:Int)) (h2:0≤p.2∧p.2<(n:Int)) (hr:∀ x∈L,0≤x∧x<(ns:Int)):
    Meets Tryz.prog 165 ([.agg (fF p).toArray]++[.pointer (some ⟨ac,0,none⟩),.pointer (some ⟨ab,0,none⟩)]) w [] (fun u m=>u= .bool (cutB L sd p)∧m=[]):=by
 obtain ⟨_,_,e1,U,J⟩:=ag aO
 cases e1
 obtain ⟨_,_,e2,F,O⟩:=aj aO
 cases e2
 have X:p.1.toNat<L.length:=aA
 have Y:p.2.toNat<L.length:=aA
 have ah:=hr _ (List.getElem_mem X)
 have ai:=hr _ (List.getElem_mem Y)
 obtain ⟨_,_,e3,Z,ae⟩:=hn (fun e=>by have:=a7 L;rw [e] at this;simp at this;omega)
 cases e3
 obtain ⟨_,_,e4,ad,aa⟩:=hs (gX (k:=0) aA)
 cases e4
 obtain ⟨a,ha⟩:∃ a:Nat,L[p.1.toNat]=(a:Int):=⟨_,(Int.toNat_of_nonneg ah.1).symm⟩
 obtain ⟨b,hb⟩:∃ b:Nat,L[p.2.toNat]=(b:Int):=⟨_,(Int.toNat_of_nonneg ai.1).symm⟩
 refine bG Tryz.func165 rfl Tryz.ntmps165 rfl Owns.nil<|aG fun kh1=>f_S (cZ rfl rfl fun b3=>?_)
 refine aB 1 rfl<|aD kh1<|aV fun kh2=>gG 17 rfl aU<|dG (aH Tryz.isAgg37 rfl (rdS U (J 0 _ rfl)))<|dG (aH Tryz.isAgg25 rfl (rdS F (O 0 _ rfl)))<|dG (aT lX rfl)<|gH Tryz.isAgg3 rfl (rdA rfl)<|dG (aM bU rfl rfl (0+p.1.toNat))<|dG (aH Tryz.isAgg3 rfl (show Rd _ _ _ _ _ (.int .i64 (a:Int)) by rw [← ha];exact eC (enc:=(.int .i64 ·)) Z ae X)) ?_
 refine dG (aM n4 rfl rfl (0+a))<|dG (aH Tryz.isAgg4 rfl (eC (enc:=Value.bool) ad aa (k:=a) aA))<|dG (aH Tryz.isAgg37 rfl (rdS U (J 0 _ rfl)))<|dG (aH Tryz.isAgg25 rfl (rdS F (O 0 _ rfl)))<|dG (aT oL rfl)<|gH Tryz.isAgg3 rfl (rdA rfl)<|dG (aM bU rfl rfl (0+p.2.toNat))<|dG (aH Tryz.isAgg3 rfl (show Rd _ _ _ _ _ (.int .i64 (b:Int)) by rw [← hb];exact eC (enc:=(.int .i64 ·)) Z ae Y)) ?_;refine dG (aM n4 rfl rfl (0+b))<|dG (aH Tryz.isAgg4 rfl (eC (enc:=Value.bool) ad aa (k:=b) aA))<|dG (o_eqlB Tryz.underlying4 rfl rfl)<|eK (i3 ?_)
 refine aB 1 rfl<|aD kh2<|aZ ?_
 have e : cutB L sd p = decide (sd[a]'aA = sd[b]'aA) := by unfold cutB; rw [nd_at X, nd_at Y, ha, hb, Int.toNat_natCast, Int.toNat_natCast, List.getD_eq_getElem?_getD, List.getD_eq_getElem?_getD, List.getElem?_eq_getElem aA, List.getElem?_eq_getElem aA]; rfl
 exact bO [] Tryz.results165 rfl aP ⟨by rw [e],rfl⟩
theorem CutN_spec (N:Int) (A:Option Addr) (l:List Arc) (cap:Nat) (c most:Int) (w:World) (hr:Ro (Fr w []) w A (l.flatMap cH)) (hl:l.length≤9223372036854775807) (hN:I64 N) (hok:∀ x∈l,eN x):
    Meets Tryz.prog 130 [.agg #[.int .i64 N,.slice A l.length cap],.int .i64 c,.int .i64 most] w [] (fun u own' =>∃ (C:List Pr) (A' :Option Addr) (c2:Nat) (m' :Seg),u= .tuple #[.slice A' C.length C.length,.int .i64 (ncE N l c most)]∧own' =[m']∧Own 215 2 (.slice A' C.length c2) C.length (C.flatMap fF) m'∧(ncE N l c most≠0→C=[])∧(ncE N l c most=0→NcΦ N.toNat l c most C)):=by
 have b6:=regR_len (N:=N) (l:=l) (c:=c) (most:=most)
 refine bG Tryz.func130 rfl Tryz.ntmps130 rfl Owns.nil<|aG fun kh1=>f_S (cZ rfl rfl fun b3=>?_)
 refine aB 2 rfl<|aD kh1<|aG fun kh2=>f_Q (aQ (vs:=[_,_]) Tryz.isAgg24 Tryz.sizeOf24 rfl rfl ⟨(rdA rfl),(rdA rfl),trivial⟩)<|aB 2 rfl ?_
 refine f_S (aW Tryz.call161 rfl (fun w_ hp_=>Region_spec N A l cap c most w_ (hr.up0 hp_) hl hN hok) ?_);rintro _ _ ⟨sR,mR,rfl,rfl,ak⟩;obtain ⟨AR,cR,rfl,b8⟩:=ak.val
 dsimp only [aK,aJ];refine aB 5 rfl<|aD kh2<|aV fun kh3=>aG fun kh4=>aB 2 rfl<|aD kh4<|aX rfl (fun c31=>?_) (fun c31=>?_)
 ·refine aG fun bc=>aB 3 rfl<|aD bc<|aZ<|dA ?_
  have Y:(eX N l c most).2≠0:=by simpa using c31
  have he:ncE N l c most=(eX N l c most).2:=by unfold ncE;rw [if_pos Y]
  exact dB [[]] Tryz.results130 rfl rfl (show Fly.Sub _ [[]] from aC) ⟨[],none,0,[],by rw [he];rfl,rfl,Own.nil _ _,fun _=>rfl,fun h=>absurd (he.symm.trans h) Y⟩
 ·have F:(eX N l c most).2=0:=by simpa using c31
  have hg:=regR_rng F
  obtain ⟨bW,b1,b9,b4⟩:=cF hg
  obtain ⟨n,rfl⟩:∃ n:Nat,N=(n:Int):=⟨N.toNat,aA⟩
  have bi:=reg_rngN F
  have ba:(i5 (n:Int) l c most).1.length≤(eX (n:Int) l c most).1.length:=by unfold i5;simp only [List.length_take];omega
  refine bZ kh3<|aV fun kh6=>aG fun kh7=>aB 1 rfl<|dY bU rfl<|cN eV rfl<|c7 Tryz.isAgg3 rfl (rdA rfl)<|aB 1 rfl<|aD kh7<|aX rfl (fun c37=>?_) (fun c37=>?_)
  ·refine aG fun bv=>aB 2 rfl<|aD bv<|aZ<|dA ?_
   have he:ncE (n:Int) l c most=0:=by unfold ncE;rw [if_neg (by rw [F];simp),if_pos aA]
   exact dB [[]] Tryz.results130 rfl rfl (show Fly.Sub _ [[]] from aC) ⟨[],none,0,[],by rw [he];rfl,rfl,Own.nil _ _,fun _=>rfl,fun _=>by rw [Int.toNat_natCast];exact ⟨fun _=>rfl,fun h=>absurd aA h⟩⟩
  ·have bg:¬ (eX (n:Int) l c most).1.length=n:=aA
   refine bZ kh6<|aG fun kh9=>f_Q (aQ (vs:=[_,_]) Tryz.isAgg24 Tryz.sizeOf24 rfl rfl ⟨(rdA rfl),(rdA rfl),trivial⟩)<|aB 2 rfl ?_
   refine f_S (aW Tryz.call162 rfl (fun w_ hp_=>Core_spec (n:Int) A l cap c most w_ (hr.up0 hp_) hl hN hok) ?_);rintro _ _ ⟨sC,mC,rfl,rfl,bu⟩;obtain ⟨AC,cC,rfl,bE⟩:=bu.val
   have be:(i5 (n:Int) l c most).2=0:=F
   rw [be];dsimp only [aK,aJ];refine aB 5 rfl<|aD kh9<|aV fun kh10=>aG fun kh11=>aB 2 rfl<|aD kh11<|d4 rfl aO<|bZ kh10<|aG fun kh12=>f_S (bX eO aA rfl rfl rfl fun al=>?_)
   refine cN eV rfl<|c7 Tryz.isAgg3 rfl (rdA rfl) ?_
   refine f_S (aW Tryz.call63 rfl (fun w_ hp_=>j4 al 0 1 n 1 w_ (fK (b:=al) hp_ (cs:=[.int .i64 1]) (fun j v hj=>hj)) aA) ?_);rintro _ _ ⟨bN,rfl,rfl⟩;dsimp only [aK,aJ];refine f_S (cX Tryz.zeroValue25 rfl fun U=>?_);refine f_Z (bQ Tryz.sizeOf25 rfl rfl rfl rfl cG [.slice (some ⟨bN,0,none⟩) n n] rfl ?_);refine aD kh12<|aV fun kh13=>aV fun aw=>lB bN (a8 (qK (eX (n:Int) l c most).1 (i5 (n:Int) l c most).1.length n 0)) (by simp [a8,qK]) ?_
   refine aI<|aB 1 rfl<|dY bU rfl<|aB 1 rfl<|aD aw<|aS ?_
   refine dF (α:=Nat) [3,8,10,11,52,53] (fun k=>[(54,.int .i64 (k:Int))]) (fun k=>[[(bN,blk (a8 (qK (eX (n:Int) l c most).1 (i5 (n:Int) l c most).1.length n k)) 3)],[(U,blk [.slice (some ⟨bN,0,none⟩) n n] 25)],mR,[(b3,blk [.int .i64 (n:Int),.slice A l.length cap] 24)]]) (fun k=>k≤(eX (n:Int) l c most).1.length) (fun k=>(eX (n:Int) l c most).1.length - k) (0) ?_ ?_ ?_ ?_
   ·exact aF
   ·exact aC
   ·exact Nat.zero_le _
   ·rintro k bw;refine aG fun kh15=>aB 1 rfl<|aD kh15<|aV fun kh16=>aX rfl (fun bq=>?_) (fun bq=>?_)
    ·have hk:k<(eX (n:Int) l c most).1.length:=aA
     obtain ⟨bR,b5,rfl,rfl⟩:=ak.at_ aA
     have an:=bi _ (List.getElem_mem hk)
     obtain ⟨v,hv⟩:∃ v:Nat,(eX (n:Int) l c most).1[k]=(v:Int):=⟨_,(Int.toNat_of_nonneg an.1).symm⟩
     rw [hv] at an;have ab:((eX (n:Int) l c most).1.getD k 0).toNat=v:=by rw [List.getD_eq_getElem?_getD,List.getElem?_eq_getElem hk,Option.getD_some,hv,Int.toNat_natCast]
     refine bZ kh16<|aV fun kh17=>aS<|aG fun kh18=>aB 1 rfl<|f_Q (aM bU rfl rfl (k))<|f_Q (aH Tryz.isAgg3 rfl (rdA (v:= .int .i64 (v:Int)) (d7 (by rw [d9 hk,hv])))) ?_
     refine aB 2 rfl<|aD kh18<|aG fun kh19=>aB 2 rfl<|dY bU rfl<|aB 1 rfl<|aD kh19<|aX rfl (fun c62=>?_) (fun c62=>?_)
     ·have J:(qK (eX (n:Int) l c most).1 (i5 (n:Int) l c most).1.length n k).set v 0=(qK (eX (n:Int) l c most).1 (i5 (n:Int) l c most).1.length n (k+1)):=by rw [ndTo_succ,ab,if_pos aA]
      refine aI<|c7 Tryz.isAgg25 rfl (rdA rfl)<|aB 1 rfl<|f_Q (aM bU rfl rfl (v))<|f_Z (bQ Tryz.sizeOf3 rfl rfl rfl rfl (by rw [a7,ndTo_len];omega) (a8 (qK (eX (n:Int) l c most).1 (i5 (n:Int) l c most).1.length n (k+1))) (by rw [← J];simp [a8]) ?_)
      refine aY<|dI<|bP kh17<|aI<|f_Q (bF rfl rfl)<|aB 1 rfl<|aY ?_
      refine cV (a6 (k+1) (by first|omega|(dsimp only;omega)|(simp;omega)) aA ?_ ?_ ?_)
      ·exact aF
      ·exact aF
      ·exact aC
     ·have J:(qK (eX (n:Int) l c most).1 (i5 (n:Int) l c most).1.length n k).set v (2+(k:Int) - ((i5 (n:Int) l c most).1.length:Int))=(qK (eX (n:Int) l c most).1 (i5 (n:Int) l c most).1.length n (k+1)):=by rw [ndTo_succ,ab,if_neg aA]
      refine aI<|c7 Tryz.isAgg25 rfl (rdA rfl)<|aB 2 rfl<|f_Q (bF rfl rfl)<|aB 1 rfl<|dY bU rfl<|f_Q (jK rfl rfl)<|f_Q (aM bU rfl rfl (v))<|f_Z (bQ Tryz.sizeOf3 rfl rfl rfl rfl (by rw [a7,ndTo_len];omega) (a8 (qK (eX (n:Int) l c most).1 (i5 (n:Int) l c most).1.length n (k+1))) (by rw [← J];simp [a8]) ?_)
      refine aY<|dI<|bP kh17<|aI<|f_Q (bF rfl rfl)<|aB 1 rfl<|aY ?_
      refine cV (a6 (k+1) (by first|omega|(dsimp only;omega)|(simp;omega)) aA ?_ ?_ ?_)
      ·exact aF
      ·exact aF
      ·exact aC
    ·refine cS<|cU<|cU<|eH<|bP kh13<|aV fun kh20=>?_
     obtain rfl:k=(eX (n:Int) l c most).1.length:=aA
     rw [show (qK (eX (n:Int) l c most).1 (i5 (n:Int) l c most).1.length n (eX (n:Int) l c most).1.length)=(fR n l c most) from rfl];have a2:(fR n l c most).length=n:=ndTo_len _ _ _ _
     have aa:=ndTo_rng (eX (n:Int) l c most).1 (i5 (n:Int) l c most).1.length n (eX (n:Int) l c most).1.length ba (eX (n:Int) l c most).1.length (Nat.le_refl _)
     have au:=I64_nd (L:=(fR n l c most)) (m:=kB n l c most) (by unfold kB;omega) aa
     have bK:kB n l c most=2+((eX (n:Int) l c most).1.length:Int) - ((i5 (n:Int) l c most).1.length:Int):=rfl
     refine aI<|aB 1 rfl<|dY bU rfl<|f_Q (bF rfl rfl)<|aB 1 rfl<|dY bU rfl<|f_Q (j5 rfl rfl _ (Eq.trans (d8 aA) (show _=kB n l c most from rfl)))<|f_Q (dU (cs:=[.int .i64 (kB n l c most),.slice none 0 0]) st265 rfl rfl)<|f_S (cX Tryz.zeroValue265 rfl fun b14=>?_)
     refine f_Z (bS Tryz.sizeOf265 rfl rfl rfl rfl cG [.int .i64 (kB n l c most),.slice none 0 0] rfl ?_);refine aD kh20<|aG fun kh21=>f_Q (aQ (vs:=[_,_]) Tryz.isAgg24 Tryz.sizeOf24 rfl rfl ⟨(rdA rfl),(rdA rfl),trivial⟩) ?_
     refine f_S (aW Tryz.call142 rfl (fun w_ hp_=>pairs_spec n A l cap w_ (hr.up0 hp_) hg) ?_);rintro _ _ ⟨Ap,mp,rfl,rfl,cp,az⟩;have bM:=prs_len (n:=n) aA l
     dsimp only [aK,aJ];refine aB 1 rfl<|aD kh21<|aV fun kh22=>aG fun ap=>aB 1 rfl<|dY iB rfl<|aB 1 rfl<|aD ap<|aS ?_
     refine dF (α:=Nat×Value×Seg) [11,14,15,84,85] (fun ⟨k,O,em⟩=>[(86,.int .i64 (k:Int))]) (fun ⟨k,O,em⟩=>[[(bN,blk (a8 (fR n l c most)) 3)],[(U,blk [.slice (some ⟨bN,0,none⟩) n n] 25)],[(b14,blk [.int .i64 (kB n l c most),O] 265)],em,mp]) (fun ⟨k,O,em⟩=>k≤(prs n l).length∧Own 267 3 O (oW ((prs n l).take k) (fR n l c most)).length ((oW ((prs n l).take k) (fR n l c most)).flatMap cH) em) (fun ⟨k,O,em⟩=>(prs n l).length - k) (0,.slice none 0 0,[]) ?_ ?_ ?_ ?_
     ·exact aF
     ·exact aC
     ·exact ⟨Nat.zero_le _,Own.nil _ _⟩
     ·rintro ⟨k,O,em⟩ ⟨bw,hE⟩;have ar:=cutE_len (fR n l c most) ((prs n l).take k)
      rw [List.length_take] at ar;obtain ⟨bj,bk,rfl,bD⟩:=hE.val
      refine fJ (e:=[(86,_),(11,_),(14,_),(15,_),(84,_),(85,_)]) aF ?_;refine aG fun kh24=>aB 1 rfl<|aD kh24<|aV fun kh25=>aX rfl (fun bf=>?_) (fun bf=>?_)
      ·have hk:k<(prs n l).length:=aA
       obtain ⟨bp,cd,rfl,rfl⟩:=az.at_ aA
       have b2:=jD (List.getElem_mem hk)
       have ay:(prs n l)[k].1.toNat<(fR n l c most).length:=aA
       have aq:(prs n l)[k].2.toNat<(fR n l c most).length:=aA
       have J:=cutE_next (L:=(fR n l c most)) hk
       refine bZ kh25<|aV fun kh26=>aS<|aG fun kh27=>f_Q (aM iB rfl rfl (k*2))<|f_Q (aQ (vs:=fF (prs n l)[k]) Tryz.isAgg215 Tryz.sizeOf215 rfl rfl (jR e5 hk))<|f_S (cX Tryz.zeroValue215 rfl fun b17=>?_)
       refine f_Z (bS Tryz.sizeOf215 rfl rfl rfl rfl cG (fF (prs n l)[k]) rfl ?_);refine aD kh27<|aV fun kh28=>cQ [[(b17,blk [.int .i64 (prs n l)[k].1,.int .i64 (prs n l)[k].2] 215)],[(bN,blk (a8 (fR n l c most)) 3)],[(U,blk [.slice (some ⟨bN,0,none⟩) n n] 25)]] rfl<|f_T 0 rfl (aH Tryz.isAgg25 rfl (rdA rfl))<|f_T 1 rfl (aT lX rfl)<|f_T 2 rfl (aH Tryz.isAgg3 rfl (rdA rfl))<|f_T 3 rfl (aM bU rfl rfl ((prs n l)[k].1.toNat))<|f_T 4 rfl (aH Tryz.isAgg3 rfl (rdA (v:= .int .i64 (nd (fR n l c most) (prs n l)[k].1)) (by rw [nd_at ay];exact d9 ay))) ?_
       refine f_T 5 rfl (aH Tryz.isAgg25 rfl (rdA rfl))<|f_T 6 rfl (aT oL rfl)<|f_T 7 rfl (aH Tryz.isAgg3 rfl (rdA rfl))<|f_T 8 rfl (aM bU rfl rfl ((prs n l)[k].2.toNat))<|f_T 9 rfl (aH Tryz.isAgg3 rfl (rdA (v:= .int .i64 (nd (fR n l c most) (prs n l)[k].2)) (by rw [nd_at aq];exact d9 aq))) ?_
       refine f_T 10 rfl (bI rfl)<|f_T 11 rfl (bI rfl)<|cO aU<|bP kh28<|aG fun kh29=>aB 3 rfl<|aD kh29<|aX rfl (fun c102=>?_) (fun c102=>?_)
       ·rw [if_pos aA] at J;refine aI<|cN fa265_1 rfl<|c7 Tryz.isAgg263 rfl (rdA rfl)<|aB 2 rfl<|f_Q (dU (cs:=cH ⟨nd (fR n l c most) (prs n l)[k].1,nd (fR n l c most) (prs n l)[k].2,1⟩) st267 rfl rfl)<|aB 2 rfl<|f_Q (dU (cs:=cH ⟨nd (fR n l c most) (prs n l)[k].2,nd (fR n l c most) (prs n l)[k].1,1⟩) st267 rfl rfl)<|f_S (o_sliceN (len:=2) el263 aA rfl (show _=some (cH ⟨nd (fR n l c most) (prs n l)[k].1,nd (fR n l c most) (prs n l)[k].2,1⟩++cH ⟨nd (fR n l c most) (prs n l)[k].2,nd (fR n l c most) (prs n l)[k].1,1⟩).toArray from rfl) fun bB=>?_)
        refine f_S (dJ el263 rfl rfl hE (ys:=cH ⟨nd (fR n l c most) (prs n l)[k].1,nd (fR n l c most) (prs n l)[k].2,1⟩++cH ⟨nd (fR n l c most) (prs n l)[k].2,nd (fR n l c most) (prs n l)[k].1,1⟩) ⟨(rdA rfl),(rdA rfl),(rdA rfl),(rdA rfl),(rdA rfl),(rdA rfl),trivial⟩ rfl rfl aA aA fun bC aj Z=>?_);obtain ⟨a1,av,rfl,_⟩:=Z.val
        refine cN fa265_1 rfl<|f_Z (bQ Tryz.sizeOf263 rfl rfl rfl rfl cG [.int .i64 (kB n l c most),.slice a1 ((oW ((prs n l).take k) (fR n l c most)).length+2) av] rfl ?_)
        refine aY<|dI<|bP kh26<|aI<|f_Q (bF rfl rfl)<|aB 1 rfl<|aY ?_
        refine cV (a6 (k+1,_,aj) (by first|omega|(dsimp only;omega)|(simp;omega)) ⟨aA,by rw [J,List.flatMap_append,List.length_append];simpa using Z⟩ ?_ ?_ ?_)
        ·exact aF
        ·exact aF
        ·exact aC
       ·rw [if_neg aA,List.append_nil] at J;refine dZ<|dI<|bP kh26<|aI<|f_Q (bF rfl rfl)<|aB 1 rfl<|aY ?_
        refine cV (a6 (k+1,_,em) (by first|omega|(dsimp only;omega)|(simp;omega)) ⟨aA,by rw [J];exact hE⟩ ?_ ?_ ?_)
        ·exact aF
        ·exact aF
        ·exact aC
      ·obtain rfl:k=(prs n l).length:=aA
       rw [List.take_length] at hE ar ⊢;refine cS<|cU<|cU<|eH<|bP kh22<|aG fun kh30=>f_Q (aQ (vs:=[_,_]) Tryz.isAgg265 Tryz.sizeOf265 rfl rfl ⟨(rdA rfl),(rdA rfl),trivial⟩) ?_
       refine f_S (aW Tryz.call163 rfl (fun w_ hp_=>Cut_spec2 (kB n l c most) bj (oW (prs n l) (fR n l c most)) bk 0 1 w_ (fD (hE.seen hp_)) aA ⟨aA,aA⟩ (cutE_ok au)) ?_);rintro _ _ ⟨V,br,b7,sd,Aw,cw,mw,W,rfl,rfl,ao,hW,bL,hz⟩
       obtain ⟨Av,nv,ae,rfl⟩:∃ Av nv ae,br=Value.slice Av nv ae:=by
        rcases ao with ⟨_,h,_⟩|⟨_,h,_⟩<;>exact ⟨_,_,_,h⟩
       dsimp only [aK,aJ];refine aB 5 rfl<|f_S (cX Tryz.zeroValue37 rfl fun b20=>?_)
       refine f_Z (bQ Tryz.sizeOf37 rfl rfl rfl rfl cG [.slice Av nv ae] rfl ?_);refine aB 3 rfl<|aD kh30<|aV fun kh31=>aG fun kh32=>aB 2 rfl<|aD kh32<|aX rfl (fun c123=>?_) (fun c123=>?_)
       ·refine aG fun ax=>aB 3 rfl<|aD ax<|aZ<|dA ?_
        have ag:gS (kB n l c most) (oW (prs n l) (fR n l c most)) 0 1≠0:=by simpa using c123
        have he:ncE (n:Int) l c most=gS (kB n l c most) (oW (prs n l) (fR n l c most)) 0 1:=by unfold ncE;rw [if_neg (by rw [F];simp),if_neg aA,Int.toNat_natCast]
        exact dB [[]] Tryz.results130 rfl rfl (show Fly.Sub _ [[]] from aC) ⟨[],none,0,[],by rw [he];rfl,rfl,Own.nil _ _,fun _=>rfl,fun h=>absurd (he.symm.trans h) ag⟩
       ·have am:gS (kB n l c most) (oW (prs n l) (fR n l c most)) 0 1=0:=by simpa using c123
        obtain ⟨ah,bY,⟨f,hF,hS⟩,_⟩:=hz am
        obtain ⟨bs,bt,rfl⟩:=ao.resolve_left (fun h=>by have:=h.1;rw [this] at ah;simp at ah;omega)
        cases bt
        refine bZ kh31<|aG fun kh34=>aB 1 rfl<|f_Q (mH rfl rfl) ?_
        refine f_S (d5 [mp] _ Tryz.call164 rfl (by repeat (first|exact Sub.refl|refine aL ?_)) (fun w_ hp_=>DelP_spec Ap (prs n l) cp mp 165 [.pointer (some ⟨b20,0,none⟩),.pointer (some ⟨U,0,none⟩)] (cutB (fR n l c most) sd) w_ az aA Tryz.call165 (fun w' hs x hx=>CutN1_spec x b20 U bs bN sd.length n n sd (fR n l c most) w' (heldFrN hp_ hs) (heldFrN hp_ hs) (heldFrN hp_ hs) (heldFrN hp_ hs) rfl a2 (jD hx).1 (jD hx).2 (fun z hz=>by have:=aa z hz;omega)) hp_.owns) ?_);rintro _ _ ⟨ad,ac,c1,c2,rfl,rfl,bh,ai,X⟩;dsimp only [aK,aJ];refine f_S (aW Tryz.call133 rfl (fun w_ hp_=>ClipPr_spec ac _ c1 w_ bh ai (kX X)) ?_);rintro _ _ ⟨rfl,rfl⟩;dsimp only [aK,aJ];refine aB 2 rfl<|aD kh34<|aZ ?_
        have he:ncE (n:Int) l c most=0:=by unfold ncE;rw [if_neg (by rw [F];simp),if_neg aA,Int.toNat_natCast];exact am
        exact dB [ad] Tryz.results130 rfl rfl aC ⟨_,ac,c2,ad,by rw [he],rfl,X,fun h=>absurd he h,fun _=>by rw [Int.toNat_natCast];exact ⟨fun h=>absurd h bg,fun _=>⟨f,V,sd,ah,hF,hS,rfl⟩⟩⟩
end Go.Proofs.YthpkelafioikaaaGreat
