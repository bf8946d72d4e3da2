import Derived.Test.YthpkelafioikaaaGreatFlyRun
import Derived.Test.YthpkelafioikaaaGreatAll9
import Derived.Test.YthpkelafioikaaaGreatAll2
import Derived.Test.YthpkelafioikaaaGreatAll0
import Derived.Test.YthpkelafioikaaaGreatAll1
namespace Go.Proofs.YthpkelafioikaaaGreat
open Go Go.RowKit Fly
set_option maxRecDepth 100000
set_option maxHeartbeats 4000000
set_option linter.all false
def eY (n:Nat) (rows:Nat→List Int):Nat→BSt
 |0=>([],List.replicate n false)
 |v+1=>if (eY n rows v).2.getD v false=true then eY n rows v else ((eY n rows v).1++(bfs n rows v (eY n rows v).2).1,(bfs n rows v (eY n rows v).2).2)
def ordR (N:Int) (l:List Arc):List Int×Int:=if (cL N l).2≠0 then ([],(cL N l).2) else ((eY N.toNat (fun v:Nat=>dS (v:Int) l) N.toNat).1,0)
theorem bfs_inv {n:Nat} {rows:Nat→List Int} (hr:∀ v,v<n→∀ u∈rows v,0≤u∧u<(n:Int)) {c:Nat} {b:List Bool} (hb:b.length=n) (hc:c<n):BInv n (bfs n rows c b):=BInv.go hr (BInv.start hb hc) n
theorem ordGo_len {n:Nat} {rows:Nat→List Int} (hr:∀ v,v<n→∀ u∈rows v,0≤u∧u<(n:Int)):∀ v,v≤n→(eY n rows v).2.length=n∧(eY n rows v).1.length≤v*n
 |0,_=>⟨by show (List.replicate n false).length=n;simp,by show 0≤0*n;omega⟩
 |v+1,h=>by
  obtain ⟨h1,h2⟩:=ordGo_len hr v aA
  unfold eY
  split
  ·exact ⟨h1,Nat.le_trans h2 (Nat.mul_le_mul_right n (Nat.le_succ v))⟩
  ·have F:=bfs_inv hr h1 (show v<n by omega)
   refine ⟨F.len,?_⟩;have:=F.out
   rw [List.length_append,Nat.succ_mul];omega
theorem ordGo_small {n:Nat} {rows:Nat→List Int} (hr:∀ v,v<n→∀ u∈rows v,0≤u∧u<(n:Int)) (hn:n≤1024) {v:Nat} (hv:v≤n):(eY n rows v).2.length=n∧(eY n rows v).1.length≤1048576:=
 ⟨(ordGo_len hr v hv).1,Nat.le_trans (ordGo_len hr v hv).2 (Nat.le_trans (Nat.mul_le_mul (Nat.le_trans hv hn) hn) (by decide))⟩
theorem mayLen {F:BSt} {ys:List Int} {y:Int} (h:arMay F ys y):ys.length<F.1.length:=by
 obtain ⟨k,hk,rfl,_⟩:=h
 rw [List.length_take];omega
theorem Order_spec (N:Int) (A:Option Addr) (l:List Arc) (cap:Nat) (w:World) (hr:Ro (Fr w []) w A (l.flatMap cH)) (hl:l.length≤9223372036854775807) (hN:I64 N) (hok:∀ x∈l,eN x):
    Meets Tryz.prog 137 [.agg #[.int .i64 N,.slice A l.length cap]] w [] (fun u own' =>∃ s ms,u= .tuple #[s,.int .i64 (ordR N l).2]∧own' =[ms]∧Own 3 1 s (ordR N l).1.length (a8 (ordR N l).1) ms):=by
 refine r_enter Tryz.func137 rfl Tryz.ntmps137 rfl Owns.nil ?_;refine dW fun K1 bw=>?_;refine cA ?_;refine fS rfl rfl rfl (Does.toR rfl (cZ rfl rfl fun b1=>?_));refine aN rfl rfl rfl rfl (bI rfl) ?_;refine aN rfl rfl rfl rfl (bI rfl) ?_;refine dM ?_;refine eB (bw _ _ _ ?_);refine dW fun K2 bp=>?_;refine dW fun K3 bc=>?_;refine cA ?_;refine aN rfl rfl rfl rfl (aQ (vs:=[_,_]) Tryz.isAgg24 Tryz.sizeOf24 rfl rfl ⟨(rdA rfl),(rdA rfl),trivial⟩) ?_;refine fS rfl rfl rfl (Does.toR rfl (aW Tryz.call20 rfl (fun w_ O=>gF N A l cap w_ (hr.up0 O) hl hN hok) ?_));rintro _ _ ⟨rfl,rfl⟩;dsimp only [aK,aJ];refine aN rfl rfl rfl rfl (aR rfl) ?_;refine aN rfl rfl rfl rfl (eU rfl rfl) ?_;refine aN rfl rfl rfl rfl (eU rfl rfl) ?_;refine aN rfl rfl rfl rfl (bI rfl) ?_;refine aN rfl rfl rfl rfl (bI rfl) ?_;refine dM ?_;refine eB (bc _ _ _ ?_);refine dW fun K4 bi=>?_;refine cA ?_;refine aN rfl rfl rfl rfl (aR rfl) ?_;refine aN rfl rfl rfl rfl (o_neq rfl rfl) ?_;refine dM ?_;refine eB (bi _ _ _ ?_);refine kM rfl (fun ag=>?_) (fun ag=>?_)
 ·refine dW fun K5 bh=>?_;refine cA ?_;refine aN rfl rfl rfl rfl (aR rfl) ?_;refine aN rfl rfl rfl rfl (bI rfl) ?_;refine aN rfl rfl rfl rfl (bI rfl) ?_;refine dM ?_;refine eB (bh _ _ _ ?_);refine nL ?_;refine r_tr ?_;have e:ordR N l=([],(cL N l).2):=if_pos ag
  exact lG [[]] Tryz.results137 rfl rfl (show Fly.Sub _ [[],[]] from aC) ⟨_,_,by rw [e],rfl,by rw [e];exact Own.nil _ _⟩
 ·have hg:(cL N l).2=0:=by simpa using ag
  obtain ⟨bE,bW,a1,ar⟩:=cF hg
  obtain ⟨n,rfl⟩:∃ n:Nat,N=(n:Int):=⟨N.toNat,aA⟩
  have aa:n≤1024:=aA
  obtain ⟨br,X⟩:=pL hg
  have ae:ordR (n:Int) l=((eY n (fun v:Nat=>dS (v:Int) l) n).1,0):=by unfold ordR;rw [if_neg (by rw [hg];simp),Int.toNat_natCast]
  refine iX ?_;refine eB (bp _ _ _ ?_);refine r_meet (α:=Nat×List Value×List Seg×Nat) [1,10,37] (fun ⟨bo,vs,ms,F⟩=>[(6,.slice (some ⟨bo,0,none⟩) n n),(7,.slice (some ⟨F,0,none⟩) n n)]) (fun ⟨bo,vs,ms,F⟩=>[[(bo,blk vs 25)],ms.flatten,[(F,blk (f8 (List.replicate n false)) 4)],[(b1,blk [.int .i64 (n:Int),.slice A l.length cap] 24)]]) (fun ⟨bo,vs,ms,F⟩=>RowsI 3 (nrows n l) vs ms) ?_ ?_
  ·intro K6 ai;refine r_old ?_;refine cQ [[(b1,blk [.int .i64 (n:Int),.slice A l.length cap] 24)]] rfl<|f_T 0 rfl (aQ (vs:=[_,_]) Tryz.isAgg24 Tryz.sizeOf24 rfl rfl ⟨(rdA rfl),(rdA rfl),trivial⟩)<|f_T 2 rfl (aT eV rfl)<|f_T 3 rfl (aH Tryz.isAgg3 rfl (rdA rfl))<|gD 1 4 rfl rfl aU rfl rfl rfl rfl rfl rfl ?_ ?_
   ·refine (aW Tryz.call168 rfl (fun w_ O=>qB n A l cap w_ (hr.up0 O) aa a1 ar) ?_);rintro _ _ ⟨bo,vs,ms,rfl,rfl,hR⟩;dsimp only [aK,aJ];refine ⟨aC,?_⟩;refine gD 4 5 rfl rfl aU rfl rfl rfl rfl rfl rfl ?_ ?_
    ·refine (e6 el37 rfl rfl n rfl aA aA (f8 (List.replicate n false)) (pC n false) fun F=>⟨aC,?_⟩);refine f_O 5 rfl ((bI rfl).does ⟨aC,?_⟩);refine f_O 6 rfl ((bI rfl).does ⟨aC,?_⟩);refine cO aU ?_;refine r_new ?_;refine eB (ai _ _ (bo,vs,ms,F) hR ?_ ?_ ?_)
     ·exact aF
     ·exact aF
     ·exact aC
    ·refine (bI rfl).does ⟨aC,?_⟩;refine f_O 4 rfl (e6 el37 rfl rfl n rfl aA aA (f8 (List.replicate n false)) (pC n false) fun F=>⟨aC,?_⟩);refine f_O 6 rfl ((bI rfl).does ⟨aC,?_⟩);refine cO aU ?_;refine r_new ?_;refine eB (ai _ _ (bo,vs,ms,F) hR ?_ ?_ ?_)
     ·exact aF
     ·exact aF
     ·exact aC
   ·refine (e6 el37 rfl rfl n rfl aA aA (f8 (List.replicate n false)) (pC n false) fun F=>⟨aC,?_⟩);refine f_O 1 rfl (aW Tryz.call168 rfl (fun w_ O=>qB n A l cap w_ (hr.up0 O) aa a1 ar) ?_);rintro _ _ ⟨bo,vs,ms,rfl,rfl,hR⟩;dsimp only [aK,aJ];refine ⟨aC,?_⟩;refine f_O 5 rfl ((bI rfl).does ⟨aC,?_⟩);refine f_O 6 rfl ((bI rfl).does ⟨aC,?_⟩);refine cO aU ?_;refine r_new ?_;refine eB (ai _ _ (bo,vs,ms,F) hR ?_ ?_ ?_)
    ·exact aF
    ·exact aF
    ·exact aC
  ·rintro ⟨bo,vs,ms,F⟩ hR;refine dW fun K7 bk=>?_;refine cA ?_;refine fS rfl rfl rfl (Does.toR rfl (cX Tryz.zeroValue25 rfl fun Z=>?_));refine dM ?_;refine eB (bk _ _ _ ?_);refine dW fun K8 bu=>?_;refine dW fun K9 bj=>?_;refine cA ?_;refine aN rfl rfl rfl rfl (aT eV rfl) ?_;refine aN rfl rfl rfl rfl (aH Tryz.isAgg3 rfl (rdA rfl)) ?_;refine aN rfl rfl rfl rfl (aR rfl) ?_;refine dM ?_;refine eB (bj _ _ _ ?_);refine f9 ?_;refine r_loop (α:=Nat×Value×Seg×List Nat) (fun ⟨v,Y,J,mk⟩=>mk) [6,7,8,25,37] (fun ⟨v,Y,J,mk⟩=>[(26,.int .i64 (v:Int))]) (fun ⟨v,Y,J,mk⟩=>[mks mk,[(Z,blk [Y] 25)],J,[(F,blk (f8 (eY n (fun v:Nat=>dS (v:Int) l) v).2) 4)],[(bo,blk vs 25)],ms.flatten,[(b1,blk [.int .i64 (n:Int),.slice A l.length cap] 24)]]) (fun ⟨v,Y,J,mk⟩=>v≤n∧Own 3 1 Y (eY n (fun v:Nat=>dS (v:Int) l) v).1.length (a8 (eY n (fun v:Nat=>dS (v:Int) l) v).1) J) (fun ⟨v,Y,J,mk⟩=>n - v) (0,.slice none 0 0,[],[]) rfl ?_ ?_ ?_ ?_
   ·exact aF
   ·exact aC
   ·exact ⟨Nat.zero_le _,Own.nil _ _⟩
   ·rintro ⟨v,Y,J,mk⟩ ⟨be,hO⟩;obtain ⟨au,bR⟩:=ordGo_small X aa be
    obtain ⟨Ao,co,rfl,bv⟩:=hO.val
    dsimp only;refine r_envC (e:=[(26,_),(6,_),(7,_),(8,_),(25,_)]) aF ?_;refine dW fun b5 av=>?_;refine cA ?_;refine aN rfl rfl rfl rfl (o_lss rfl rfl) ?_;refine dM ?_;refine eB (av _ _ _ ?_);refine dW fun cd ax=>?_;refine kM rfl (fun bg=>?_) (fun bg=>?_)
    ·have hv:v<n:=aA
     refine iX ?_;refine eB (ax _ _ _ ?_);refine dW fun b4 ac=>?_;refine f9 ?_;refine dW fun b2 am=>?_;refine cA ?_;refine aN rfl rfl rfl rfl (aR rfl) ?_;refine aN rfl rfl rfl rfl (bI rfl) ?_;refine dM ?_;refine eB (am _ _ _ ?_);refine dW fun bL az=>?_;refine dW fun bM a2=>?_;refine cA ?_;refine aN rfl rfl rfl rfl (aR rfl) ?_;refine aN rfl rfl rfl rfl (aR rfl) ?_;refine aN rfl rfl rfl rfl (aM n4 rfl rfl (v)) ?_;refine aN rfl rfl rfl rfl (aH Tryz.isAgg4 rfl (rdA (boolsG_at aA))) ?_;refine dM ?_;refine eB (a2 _ _ _ ?_);refine r_condB rfl (fun ah=>?_) (fun ah=>?_)
     ·refine lH ?_;refine r_te ?_;refine r_be ?_;refine eB (ac _ _ _ ?_);refine cA ?_;refine aN rfl rfl rfl rfl (bF rfl rfl) ?_;refine aN rfl rfl rfl rfl (aR rfl) ?_;refine dM ?_;have U:eY n (fun v:Nat=>dS (v:Int) l) (v+1)=(eY n (fun v:Nat=>dS (v:Int) l) v):=if_pos ah
      rw [← U];refine eB (lP (v+1,.slice Ao (eY n (fun v:Nat=>dS (v:Int) l) (v+1)).1.length co,J,mk) (by first|omega|(dsimp only;omega)|(simp;omega)) rfl ⟨aA,by rw [U];exact hO⟩ ?_ ?_ ?_)
      ·exact aF
      ·exact aF
      ·exact aC
     ·have bq:=bfs_inv X au hv
      have bC:=bq.out
      refine iX ?_;refine eB (az _ _ _ ?_);refine dW fun bY ao=>?_;refine cA ?_;refine aN rfl rfl rfl rfl (aR rfl) ?_;refine aN rfl rfl rfl rfl (aR rfl) ?_;refine aN rfl rfl rfl rfl (aR rfl) ?_;refine fS rfl rfl rfl (Does.toR rfl (aW Tryz.call169 rfl (fun w_ O=>around_spec n bo F (v:Int) w_) ?_));rintro _ _ ⟨q3,q4,q5,rfl,rfl⟩;dsimp only [aK,aJ];refine dM ?_;refine eB (ao _ _ _ ?_);refine f9 ?_;refine r_range (p:=37) (lb:=[.pointer (some ⟨q5,0,none⟩),.pointer (some ⟨q4,0,none⟩),.pointer (some ⟨q3,0,none⟩)]) rfl Tryz.call188 rfl [[(Z,blk [.slice Ao (eY n (fun v:Nat=>dS (v:Int) l) v).1.length co] 25)],J] [[(q5,blk [.slice (some ⟨F,0,none⟩) n n] 37)],[(q4,blk [.int .i64 (v:Int)] 3)],[(q3,blk [.slice (some ⟨bo,0,none⟩) n n] 32)],[(F,blk (f8 (eY n (fun v:Nat=>dS (v:Int) l) v).2) 4)],[(bo,blk vs 25)],ms.flatten] [mks mk,[(b1,blk [.int .i64 (n:Int),.slice A l.length cap] 24)]] (by repeat (first|exact Sub.refl|exact aP|refine aL ?_|refine bV rfl ?_|refine fY ?_)) (fun y:Int=>Value.int .i64 y) (may:=arMay (bfs n (fun v:Nat=>dS (v:Int) l) v (eY n (fun v:Nat=>dS (v:Int) l) v).2)) (Fin:=arFin (bfs n (fun v:Nat=>dS (v:Int) l) v (eY n (fun v:Nat=>dS (v:Int) l) v).2) n v F bo q3 q4 q5 vs ms.flatten) (Stp:=arStp (bfs n (fun v:Nat=>dS (v:Int) l) v (eY n (fun v:Nat=>dS (v:Int) l) v).2) n v F bo q3 q4 q5 vs ms.flatten) (fun ay bt O=>q8 n v F bo q3 q4 q5 l (eY n (fun v:Nat=>dS (v:Int) l) v).2 vs ms bt ay au hv aa hR X br) (fun ys m=>∃ Y J,m=[(Z,blk [Y] 25)]++J∧Own 3 1 Y ((eY n (fun v:Nat=>dS (v:Int) l) v).1++ys).length (a8 ((eY n (fun v:Nat=>dS (v:Int) l) v).1++ys)) J) (fun _ _=>False) (.ret) (⟨.slice Ao (eY n (fun v:Nat=>dS (v:Int) l) v).1.length co,J,aO,by rw [List.append_nil];exact hO⟩) ?_ ?_ ?_
      ·intro ay l_ d_ ys y m_ hI an bK K_ aq;obtain ⟨Y,J,rfl,hO⟩:=hI
       have b3:=mayLen an
       obtain ⟨Ao,co,rfl,bv⟩:=hO.val
       have ce:((eY n (fun v:Nat=>dS (v:Int) l) v).1++ys).length=(eY n (fun v:Nat=>dS (v:Int) l) v).1.length+ys.length:=List.length_append
       refine r_subC (Sub.op3 (parts:=[[(Z,blk [.slice Ao ((eY n (fun v:Nat=>dS (v:Int) l) v).1++ys).length co] 25)],J]) aO Sub.refl) ?_;dsimp only [aK,aJ];refine cA ?_;refine aN rfl rfl rfl rfl (bI rfl) ?_;refine dM ?_;refine eB (aq _ _ ?_);clear aq;refine f9 ?_;refine cA ?_;refine aN rfl rfl rfl rfl (aH Tryz.isAgg25 rfl (rdA rfl)) ?_;refine aN rfl rfl rfl rfl (aR rfl) ?_;refine fS rfl rfl rfl (Does.toR rfl (bX eO aA rfl rfl rfl fun b9=>?_));refine fS rfl rfl rfl (Does.toR rfl (dJ eO rfl rfl hO (ys:=[.int .i64 y]) ⟨(rdA rfl),trivial⟩ rfl rfl aA aA fun bD al ba=>?_));obtain ⟨ak,aj,rfl,_⟩:=ba.val
       refine kW rfl rfl (Does.toR rfl (bQ Tryz.sizeOf25 rfl rfl rfl rfl cG [.slice ak (((eY n (fun v:Nat=>dS (v:Int) l) v).1++ys).length+1) aj] rfl ?_));refine dM ?_;refine r_bn ?_;exact qE (m' :=[(Z,blk [.slice ak (((eY n (fun v:Nat=>dS (v:Int) l) v).1++ys).length+1) aj] 25)]++al) (Sub.reg (out:=[[(l_,.loop (d_.rc .busy none))],[(d_.D,.deferred (some []))],[(Z,blk [.slice ak (((eY n (fun v:Nat=>dS (v:Int) l) v).1++ys).length+1) aj] 25)],al]) aC aO) ⟨_,al,rfl,by rw [← List.append_assoc,← gK];exact ba⟩
      ·intro D_ ys m_ o_ hF hI;obtain ⟨b6,ab,rfl,aw⟩:=hI
       obtain ⟨A2,c2,rfl,bB⟩:=aw.val
       obtain ⟨bf,rfl⟩:=hF
       have ad:eY n (fun v:Nat=>dS (v:Int) l) (v+1)=((eY n (fun v:Nat=>dS (v:Int) l) v).1++ys,(bfs n (fun v:Nat=>dS (v:Int) l) v (eY n (fun v:Nat=>dS (v:Int) l) v).2).2):=by rw [bf];exact if_neg (by rw [ah];simp)
       refine r_subQ (Sub.reg (out:=[[(D_,.deferred (some []))],mks mk,[(Z,blk [.slice A2 ((eY n (fun v:Nat=>dS (v:Int) l) v).1++ys).length c2] 25)],ab,[(F,blk (f8 (bfs n (fun v:Nat=>dS (v:Int) l) v (eY n (fun v:Nat=>dS (v:Int) l) v).2).2) 4)],[(bo,blk vs 25)],ms.flatten,[(b1,blk [.int .i64 (n:Int),.slice A l.length cap] 24)]]) (out' :=[mks (D_::mk),[(Z,blk [.slice A2 ((eY n (fun v:Nat=>dS (v:Int) l) v).1++ys).length c2] 25)],ab,[(F,blk (f8 (bfs n (fun v:Nat=>dS (v:Int) l) v (eY n (fun v:Nat=>dS (v:Int) l) v).2).2) 4)],[(bo,blk vs 25)],ms.flatten,[(b1,blk [.int .i64 (n:Int),.slice A l.length cap] 24)]]) (Sub.op2 (parts:=[[(Z,blk [.slice A2 ((eY n (fun v:Nat=>dS (v:Int) l) v).1++ys).length c2] 25)],ab]) aO (by dsimp only [aK,aJ];repeat first|exact aP|refine aL ?_|refine bV rfl ?_|refine fY ?_)) (by simp [mks])) ?_;refine r_bn ?_;refine r_bn ?_;refine eB (ac _ _ _ ?_);refine cA ?_;refine aN rfl rfl rfl rfl (bF rfl rfl) ?_;refine aN rfl rfl rfl rfl (aR rfl) ?_;refine dM ?_;rw [show (bfs n (fun v:Nat=>dS (v:Int) l) v (eY n (fun v:Nat=>dS (v:Int) l) v).2).2=(eY n (fun v:Nat=>dS (v:Int) l) (v+1)).2 from by rw [ad]];refine eB (lP (v+1,.slice A2 ((eY n (fun v:Nat=>dS (v:Int) l) v).1++ys).length c2,ab,D_::mk) (by first|omega|(dsimp only;omega)|(simp;omega)) rfl ⟨aA,by rw [ad];exact aw⟩ ?_ ?_ ?_)
       ·exact aF
       ·exact aF
       ·exact aC
      ·intro D_ ys m_ o_ hF hI;exact hI.elim
    ·obtain rfl:n=v:=aA
     refine lH ?_;refine r_te ?_;refine r_te ?_;refine r_be ?_;refine eB (bu _ _ _ ?_);refine dW fun b7 ap=>?_;refine cA ?_;refine aN rfl rfl rfl rfl (aH Tryz.isAgg25 rfl (rdA rfl)) ?_;refine aN rfl rfl rfl rfl (bI rfl) ?_;refine aN rfl rfl rfl rfl (bI rfl) ?_;refine dM ?_;refine eB (ap _ _ _ ?_);refine nL ?_;exact lG [J] Tryz.results137 rfl rfl aC ⟨.slice Ao (eY n (fun v:Nat=>dS (v:Int) l) n).1.length co,J,by rw [ae],rfl,by rw [ae];exact hO⟩
def BMk (b0:List Bool) (s:BSt):Prop:=∀ v:Nat,s.2.getD v false=true↔b0.getD v false=true∨(v:Int)∈s.1
theorem BMk.start {n c:Nat} {b:List Bool} (hb:b.length=n) (hc:c<n):BMk b (fO c b):=fun v=>by
 show (b.set c true).getD v false=true↔_∨(v:Int)∈[(c:Int)]
 rw [getD_set,List.mem_singleton]
 by_cases h:c=v
 ·subst h;rw [if_pos ⟨rfl,aA⟩];simp
 ·rw [if_neg (fun h' =>h h'.1)]
  constructor
  ·exact .inl
  ·rintro (h' |h')
   ·exact h'
   ·exact absurd aA h
theorem BMk.push1 {n:Nat} {b0:List Bool} {s:BSt} (F:BInv n s) (h:BMk b0 s) {u:Int} (J:0≤u∧u<(n:Int)):BMk b0 (jL s u):=by
 unfold jL
 split
 ·exact h
 ·intro v
  show (s.2.set u.toNat true).getD v false=true↔_∨(v:Int)∈s.1++[u]
  rw [getD_set,List.mem_append,List.mem_singleton]
  by_cases e:u.toNat=v
  ·rw [if_pos ⟨e,by rw [F.len];omega⟩]
   exact ⟨fun _=> .inr (.inr aA),fun _=>rfl⟩
  ·rw [if_neg (fun h' =>e h'.1),h v]
   constructor
   ·rintro (h' |h')
    ·exact .inl h'
    ·exact .inr (.inl h')
   ·rintro (h' |h' |h')
    ·exact .inl h'
    ·exact .inr h'
    ·exact absurd aA e
theorem BMk.push {n:Nat} {b0:List Bool} {row:List Int} (hr:∀ u∈row,0≤u∧u<(n:Int)):∀ {s:BSt},BInv n s→BMk b0 s→BMk b0 (i6 row s):=by
 induction row with
 |nil=>exact fun _ h=>h
 |cons u row ih=>exact fun F h=>ih (fun x hx=>hr x (List.mem_cons_of_mem _ hx)) (F.push1 (hr u (List.mem_cons_self ..))) (h.push1 F (hr u (List.mem_cons_self ..)))
theorem BMk.go {n:Nat} {b0:List Bool} {rows:Nat→List Int} (hr:∀ v,v<n→∀ u∈rows v,0≤u∧u<(n:Int)) {s:BSt} (J:BInv n s) (h:BMk b0 s):∀ k,BMk b0 (bgo rows s k)
 |0=>h
 |k+1=>by
  have ih:=BMk.go hr J h k
  have F:=BInv.go hr J k
  show BMk b0 (oN rows k (bgo rows s k))
  rcases Nat.lt_or_ge k (bgo rows s k).1.length with hk|hk
  ·rw [p5 hk]
   exact ih.push (hr _ (by have:=F.rng _ (List.getElem_mem hk);omega)) F
  ·rw [p4 hk];exact ih
structure BLev (n:Nat) (rows:Nat→List Int) (c k:Nat) (s:BSt) (E:List Nat):Prop where
 len:E.length=s.1.length
 pos:0<s.1.length
 head:s.1[0]? =some (c:Int)∧E[0]? =some 0
 rise:E.Pairwise (·≤·)
 par : ∀ i (h : i < s.1.length) (h' : i < E.length), 0 < i → ∃ j, ∃ hj : j < i, s.1[i] ∈ rows (s.1[j]'aA).toNat ∧ E[i] = E[j]'aA + 1
 top:∀ (h' :k<E.length) i (h:i<E.length),E[i]≤E[k]+1
 clo:∀ j (h:j<s.1.length) (h' :j<E.length),j<k→∀ u∈rows s.1[j].toNat,∃ i,∃ hi:i<s.1.length,∃ hi' :i<E.length,s.1[i]=u∧E[i]≤E[j]+1
theorem BLev.start (n:Nat) (rows:Nat→List Int) (c:Nat) (b:List Bool):BLev n rows c 0 (fO c b) [0]:=
 ⟨rfl,by simp [fO],⟨rfl,rfl⟩,aO,fun i h _ hi=>by simp [fO] at h;omega,fun h' i h=>by simp at h;subst h;simp,fun j _ _ hj=>aA⟩
theorem BLev.push1 {n:Nat} {rows:Nat→List Int} {c k:Nat} {s:BSt} {E:List Nat} (h:BLev n rows c k s E) (hk:k<s.1.length) (F:k<E.length) {u:Int} (hu:u∈rows s.1[k].toNat) (hm:s.2.getD u.toNat false=true↔u∈s.1):
  ∃ E',BLev n rows c k (jL s u) E'∧E<+:E'∧(∃ i,∃ hi:i<(jL s u).1.length,∃ hi' :i<E'.length,(jL s u).1[i]=u∧E'[i]≤E[k]+1):=by
 unfold jL
 split
 ·rename_i ht
  refine ⟨E,h,List.prefix_refl _,?_⟩;obtain ⟨i,hi,he⟩:=List.mem_iff_getElem.1 (hm.1 ht)
  exact ⟨i,hi,by rw [h.len];exact hi,he,h.top F i _⟩
 ·have hlen:=h.len
  refine ⟨E++[E[k]+1],⟨by simp [hlen],aO,?_,?_,?_,?_,?_⟩,List.prefix_append _ _,s.1.length,aO,by simp [hlen],aO,?_⟩
  ·refine ⟨?_,?_⟩
   ·rw [List.getElem?_append_left h.pos];exact h.head.1
   ·rw [List.getElem?_append_left (by have:=h.pos;omega)];exact h.head.2
  ·rw [List.pairwise_append]
   refine ⟨h.rise,aO,fun a ha b hb=>?_⟩;simp only [List.mem_singleton] at hb;obtain ⟨i,hi,rfl⟩:=List.mem_iff_getElem.1 ha
   have:=h.top F i hi
   omega
  ·intro i hi hi' Y
   rcases Nat.lt_or_ge i s.1.length with hl|hl
   ·obtain ⟨j,hj,h1,h2⟩:=h.par i hl aA Y
    refine ⟨j,hj,?_,?_⟩
    ·rw [List.getElem_append_left hl,List.getElem_append_left aA];exact h1
    ·rw [List.getElem_append_left aA,List.getElem_append_left aA];exact h2
   ·have U:i=s.1.length:=by simp at hi;omega
    subst U;refine ⟨k,hk,?_,?_⟩
    ·rw [List.getElem_append_right (Nat.le_refl _),List.getElem_append_left hk];simpa using hu
    ·rw [List.getElem_append_right aA,List.getElem_append_left F];simp
  ·intro _ i hi
   rw [List.getElem_append_left F]
   rcases Nat.lt_or_ge i E.length with hl|hl
   ·rw [List.getElem_append_left hl];exact h.top F i hl
   ·rw [List.getElem_append_right hl];simp
  ·intro j hj Z X v hv
   have O:j<s.1.length:=aA
   have J:j<E.length:=aA
   rw [List.getElem_append_left O] at hv;obtain ⟨i,hi,hi',h1,h2⟩:=h.clo j O J X v hv
   refine ⟨i,by simp;omega,by simp;omega,?_,?_⟩
   ·rw [List.getElem_append_left hi];exact h1
   ·rw [List.getElem_append_left hi',List.getElem_append_left J];exact h2
  ·rw [List.getElem_append_right aA];simp
theorem pre_get {α:Type} {a b:List α} (h:a<+:b) {i:Nat} (hi:i<a.length):∃ hi' :i<b.length,b[i]=a[i]:=by
 obtain ⟨t,rfl⟩:=h
 exact ⟨by simp;omega,List.getElem_append_left hi⟩
theorem BLev.push {n:Nat} {rows:Nat→List Int} {c k:Nat} {b0:List Bool} (hf:∀ v,b0.getD v false=false) (hr:∀ v,v<n→∀ u∈rows v,0≤u∧u<(n:Int)) {s:BSt} {E:List Nat} (hI:BInv n s) (hM:BMk b0 s) (h:BLev n rows c k s E) (hk:k<s.1.length) (X:k<E.length):
  ∀ j,j≤(rows s.1[k].toNat).length→∃ E',BLev n rows c k (i6 ((rows s.1[k].toNat).take j) s) E'∧E<+:E'∧
   ∀ u∈(rows s.1[k].toNat).take j,∃ i,∃ hi:i<(i6 ((rows s.1[k].toNat).take j) s).1.length,∃ hi' :i<E'.length,(i6 ((rows s.1[k].toNat).take j) s).1[i]=u∧E'[i]≤E[k]+1
 |0,_=>⟨E,by simpa [i6] using h,List.prefix_refl _,aO⟩
 |j+1,hj=>by
  obtain ⟨E1,h1,h2,h3⟩:=BLev.push hf hr hI hM h hk X j aA
  have O:j<(rows s.1[k].toNat).length:=aA
  have J:=hr s.1[k].toNat (by have:=hI.rng _ (List.getElem_mem hk);omega)
  have ag:BInv n (i6 ((rows s.1[k].toNat).take j) s):=hI.push fun u F=>J u (List.mem_of_mem_take F)
  have ae:BMk b0 (i6 ((rows s.1[k].toNat).take j) s):=hM.push (fun u F=>J u (List.mem_of_mem_take F)) hI
  obtain ⟨r,U⟩:=bpush_ext ((rows s.1[k].toNat).take j) s
  have ad:k<(i6 ((rows s.1[k].toNat).take j) s).1.length:=by rw [U,List.length_append];omega
  have ab:(i6 ((rows s.1[k].toNat).take j) s).1[k]=s.1[k]:=by simp only [U];exact List.getElem_append_left hk
  obtain ⟨Y,aa⟩:=pre_get h2 X
  have F:=J _ (List.getElem_mem O)
  have hm:(i6 ((rows s.1[k].toNat).take j) s).2.getD ((rows s.1[k].toNat)[j]).toNat false=true↔(rows s.1[k].toNat)[j]∈(i6 ((rows s.1[k].toNat).take j) s).1:=by
   rw [ae _,hf,Int.toNat_of_nonneg F.1];simp
  rw [q6 O];obtain ⟨E2,g1,g2,g3⟩:=h1.push1 ad Y (u:=(rows s.1[k].toNat)[j]) (by rw [ab];exact List.getElem_mem O) hm
  refine ⟨E2,g1,h2.trans g2,fun u F=>?_⟩;rw [List.take_succ_eq_append_getElem O] at F
  rcases List.mem_append.1 F with F|F
  ·obtain ⟨i,hi,hi',e1,e2⟩:=h3 u F
   obtain ⟨ac,e3⟩:=pre_get g2 hi'
   obtain ⟨r2,Z⟩:=bpush1_ext (i6 ((rows s.1[k].toNat).take j) s) (rows s.1[k].toNat)[j]
   refine ⟨i,by rw [Z,List.length_append];omega,ac,?_,by rw [e3];exact e2⟩;simp only [Z];rw [List.getElem_append_left hi];exact e1
  ·simp only [List.mem_singleton] at F
   subst F;obtain ⟨i,hi,hi',e1,e2⟩:=g3
   exact ⟨i,hi,hi',e1,by rw [aa] at e2;exact e2⟩
theorem BLev.step {n:Nat} {rows:Nat→List Int} {c k:Nat} {b0:List Bool} (hf:∀ v,b0.getD v false=false) (hr:∀ v,v<n→∀ u∈rows v,0≤u∧u<(n:Int)) {s:BSt} {E:List Nat} (hI:BInv n s) (hM:BMk b0 s) (h:BLev n rows c k s E):∃ E',BLev n rows c (k+1) (oN rows k s) E' :=by
 rcases Nat.lt_or_ge k s.1.length with hk|hk
 ·have O:k<E.length:=by rw [h.len];exact hk
  obtain ⟨E',h1,h2,h3⟩:=BLev.push hf hr hI hM h hk O _ (Nat.le_refl _)
  rw [List.take_length] at h1 h3;rw [p5 hk];refine ⟨E',{ h1 with top:=fun X i hi=>?_,clo:=fun j hj J ab u Y=>?_ }⟩
  ·obtain ⟨U,e⟩:=pre_get h2 O
   have h4:=h1.top U i hi
   have h5:=List.pairwise_iff_getElem.1 h1.rise k (k+1) U X aA
   omega
  ·rcases Nat.lt_or_ge j k with F|F
   ·exact h1.clo j hj J F u Y
   ·obtain rfl:j=k:=aA
    obtain ⟨r,Z⟩:=bpush_ext (rows s.1[j].toNat) s
    have aa:(i6 (rows s.1[j].toNat) s).1[j]=s.1[j]:=by
     have hg:(i6 (rows s.1[j].toNat) s).1[j]? =s.1[j]? :=by rw [Z,List.getElem?_append_left hk]
     rw [List.getElem?_eq_getElem hj,List.getElem?_eq_getElem hk] at hg;exact Option.some.inj hg
    rw [aa] at Y;obtain ⟨i,hi,hi',e1,e2⟩:=h3 u Y
    obtain ⟨U,e⟩:=pre_get h2 O
    exact ⟨i,hi,hi',e1,by rw [e];exact e2⟩
 ·rw [p4 hk]
  refine ⟨E,{ h with top:=fun X i hi=>?_,clo:=fun j hj J ab u Y=>?_ }⟩
  ·have:=h.len;omega
  ·exact h.clo j hj J aA u Y
theorem BLev.go {n:Nat} {rows:Nat→List Int} {c:Nat} {b0:List Bool} (hb:b0.length=n) (hc:c<n) (hf:∀ v,b0.getD v false=false) (hr:∀ v,v<n→∀ u∈rows v,0≤u∧u<(n:Int)):∀ k,∃ E,BLev n rows c k (bgo rows (fO c b0) k) E
 |0=>⟨_,BLev.start n rows c b0⟩
 |k+1=>by
  obtain ⟨E,h⟩:=BLev.go hb hc hf hr k
  exact h.step hf hr (BInv.go hr (BInv.start hb hc) k) (BMk.go hr (BInv.start hb hc) (BMk.start hb hc) k)
theorem bfs_lev {n:Nat} {rows:Nat→List Int} {c:Nat} (hc:c<n) (hr:∀ v,v<n→∀ u∈rows v,0≤u∧u<(n:Int)):∃ E,BLev n rows c n (bfs n rows c (List.replicate n false)) E:=
 BLev.go aO hc (fun v=>by rw [List.getD_eq_getElem?_getD,List.getElem?_replicate];split<;>rfl) hr n
theorem bfs_mk {n:Nat} {rows:Nat→List Int} {c:Nat} {b:List Bool} (hb:b.length=n) (hc:c<n) (hr:∀ v,v<n→∀ u∈rows v,0≤u∧u<(n:Int)):BMk b (bfs n rows c b):=BMk.go hr (BInv.start hb hc) (BMk.start hb hc) n
structure OrdOk (n v:Nat) (s:BSt):Prop where
 len:s.2.length=n
 rng:∀ x∈s.1,0≤x∧x<(n:Int)
 nd:s.1.Nodup
 mrk:∀ u:Nat,s.2.getD u false=true↔(u:Int)∈s.1
 all:∀ u,u<v→(u:Int)∈s.1
theorem bgo_fresh {n:Nat} {rows:Nat→List Int} (hr:∀ v,v<n→∀ u∈rows v,0≤u∧u<(n:Int)) {c:Nat} {b:List Bool} (hb:b.length=n) (hc:c<n) (U:b.getD c false=false):∀ k,∀ x∈(bgo rows (fO c b) k).1,b.getD x.toNat false=false
 |0,x,hx=>by simp [bgo,fO] at hx;subst hx;simpa using U
 |k+1,x,hx=>by
  have ih:=bgo_fresh hr hb hc U k
  have Z:=BInv.go hr (BInv.start hb hc) k
  have hM:=BMk.go hr (BInv.start hb hc) (BMk.start hb hc) k
  rcases Nat.lt_or_ge k (bgo rows (fO c b) k).1.length with hk|hk
  ·have J:=hr _ (show ((bgo rows (fO c b) k).1[k]).toNat<n by have:=Z.rng _ (List.getElem_mem hk);omega)
   have key:∀ (row:List Int) (s:BSt),(∀ u∈row,0≤u∧u<(n:Int))→BInv n s→BMk b s→(∀ x∈s.1,b.getD x.toNat false=false)→∀ x∈(i6 row s).1,b.getD x.toNat false=false:=by
    intro row
    induction row with
    |nil=>intro s _ _ _ h x hx;exact h x hx
    |cons u row ih2=>
     intro s X O F h x hx;have hu:=X u (List.mem_cons_self ..)
     refine ih2 (jL s u) (fun y hy=>X y (List.mem_cons_of_mem _ hy)) (O.push1 hu) (F.push1 O hu) ?_ x hx;intro y hy
     unfold jL at hy
     split at hy
     ·exact h y hy
     ·rename_i hn
      rcases List.mem_append.1 hy with hy|hy
      ·exact h y hy
      ·simp only [List.mem_singleton] at hy
       subst hy;rw [F _] at hn
       cases hbv:b.getD y.toNat false with
       |false=>rfl
       |true=>exact absurd (.inl hbv) hn
   have Y:x∈(i6 (rows ((bgo rows (fO c b) k).1[k]).toNat) (bgo rows (fO c b) k)).1:=by
    have e:bgo rows (fO c b) (k+1)=oN rows k (bgo rows (fO c b) k):=rfl
    rw [e,p5 hk] at hx;exact hx
   exact key _ _ J Z hM ih x Y
  ·have e:bgo rows (fO c b) (k+1)=oN rows k (bgo rows (fO c b) k):=rfl
   rw [e,p4 hk] at hx;exact ih x hx
theorem ord_ok {n:Nat} {rows:Nat→List Int} (hr:∀ v,v<n→∀ u∈rows v,0≤u∧u<(n:Int)):∀ v,v≤n→OrdOk n v (eY n rows v)
 |0,_=>⟨by simp [eY],by simp [eY],by simp [eY],fun u=>by simp [eY,List.getD_eq_getElem?_getD,List.getElem?_replicate];split<;>rfl,fun u U=>aA⟩
 |v+1,h=>by
  have ih:=ord_ok hr v aA
  unfold eY
  split
  ·rename_i hm
   refine { ih with all:=fun u U=>?_ }
   rcases Nat.lt_or_ge u v with h1|h1
   ·exact ih.all u h1
   ·obtain rfl:u=v:=aA
    exact (ih.mrk u).1 hm
  ·rename_i hm
   have hv:v<n:=aA
   have J:=bfs_inv hr ih.len hv
   have X:=bfs_mk ih.len hv hr
   have O:=bgo_fresh hr ih.len hv (by simpa using hm) n
   refine ⟨J.len,fun x hx=>?_,?_,fun u=>?_,fun u U=>?_⟩
   ·rcases List.mem_append.1 hx with hx|hx
    ·exact ih.rng x hx
    ·exact J.rng x hx
   ·rw [List.nodup_append]
    refine ⟨ih.nd,J.nd,fun a ha b hb e=>?_⟩;subst e;have h1:=O a hb
    have h2:=(ih.mrk a.toNat).2 (by rw [Int.toNat_of_nonneg (ih.rng a ha).1];exact ha)
    rw [h1] at h2;cases h2
   ·show (bfs n rows v (eY n rows v).2).2.getD u false=true↔(u:Int)∈(eY n rows v).1++(bfs n rows v (eY n rows v).2).1
    rw [X u,ih.mrk u,List.mem_append]
   ·rcases Nat.lt_or_ge u v with h1|h1
    ·exact List.mem_append_left _ (ih.all u h1)
    ·obtain rfl:u=v:=aA
     refine List.mem_append_right _ ?_;obtain ⟨r,F⟩:=bgo_ext rows (fO u (eY n rows u).2) 0 n
     rw [Nat.zero_add] at F
     show (u:Int)∈(bgo rows (fO u (eY n rows u).2) n).1
     rw [F];exact List.mem_append_left _ (by simp [bgo,fO])
theorem OrdOk.full {n:Nat} {s:BSt} (h:OrdOk n n s):s.1.length=n:=by
 have h1:=pV h.rng h.nd
 have h2:=List.Nodup.length_le_of_subset (l₁:=(List.range n).map Int.ofNat) (l₂:=s.1) (by
  have:=List.nodup_range (n:=n)
  rw [List.Nodup,List.pairwise_map]
  exact this.imp fun {a b} F e=>F (by have:(a:Int)=b:=e;omega)) fun x hx=>by
  obtain ⟨u,J,rfl⟩:=List.mem_map.1 hx
  exact h.all u (List.mem_range.1 J)
 simp at h2;omega
theorem getD_in {α:Type} (l:List α) (d:α) {i:Nat} (h:i<l.length):l.getD i d=l[i]:=by simp [List.getD_eq_getElem?_getD,h]
theorem getD_out {α:Type} (l:List α) (d:α) {i:Nat} (h:l.length≤i):l.getD i d=d:=by simp [List.getD_eq_getElem?_getD,h]
theorem vrank_yes {keep:List Bool} {v:Nat} (h:v<keep.length) (hk:keep[v]=true):iI keep (v+1)=iI keep v+1:=by
 unfold iI;rw [verts_yes h hk,List.length_append];rfl
theorem vrank_no {keep:List Bool} {v:Nat} (h:v<keep.length) (hk:keep[v]=false):iI keep (v+1)=iI keep v:=by
 unfold iI;rw [verts_no h hk]
theorem vrank_all {keep:List Bool} {k:Nat} (h:keep.length≤k):iI keep k=(gZ keep).length:=by unfold iI;rw [verts_all h]
theorem vrank_mono (keep:List Bool) {j k:Nat} (h:j≤k):iI keep j≤iI keep k:=by
 induction k with
 |zero=>rw [Nat.le_zero.1 h];exact Nat.le_refl _
 |succ k ih=>
  rcases Nat.lt_or_ge j (k+1) with h' |h'
  ·have:=ih aA
   by_cases hl:k<keep.length
   ·cases hk:keep[k]
    ·rw [vrank_no hl hk];omega
    ·rw [vrank_yes hl hk];omega
   ·rw [vrank_all (k:=k+1) aA];rw [vrank_all (k:=k) aA] at this;exact this
  ·rw [show j=k+1 from by omega];exact Nat.le_refl _
theorem o4 {keep:List Bool} {v:Nat} (h:v<keep.length) (hk:keep[v]=true):iI keep v<(gZ keep).length:=by
 have a:=vrank_yes h hk
 have b:=vrank_mono keep (j:=v+1) (k:=keep.length) aA
 rw [vrank_all (Nat.le_refl _)] at b;omega
theorem verts_at {keep:List Bool}:∀ k,k≤keep.length→∀ i,i<(gZ (keep.take k)).length→∃ u,∃ h:u<keep.length,u<k∧(gZ (keep.take k))[i]? =some (u:Int)∧keep[u]=true∧iI keep u=i
 |0,_,i,hi=>by rw [List.take_zero] at hi;exact absurd hi (Nat.not_lt_zero _)
 |k+1,hk,i,hi=>by
  have hl:k<keep.length:=aA
  cases hkk:keep[k]
  ·rw [verts_no hl hkk] at hi ⊢
   obtain ⟨u,h,O,e,r⟩:=verts_at k aA i hi
   exact ⟨u,h,aA,e,r⟩
  ·rw [verts_yes hl hkk] at hi ⊢
   by_cases F:i<(gZ (keep.take k)).length
   ·obtain ⟨u,h,O,e,r⟩:=verts_at k aA i F
    exact ⟨u,h,aA,by rw [List.getElem?_append_left F];exact e,r⟩
   ·rw [List.length_append,List.length_singleton] at hi
    have J:i=(gZ (keep.take k)).length:=aA
    exact ⟨k,hl,aA,by rw [J,List.getElem?_append_right (Nat.le_refl _),Nat.sub_self];rfl,hkk,by rw [J];rfl⟩
theorem verts_get {keep:List Bool} {i:Nat} (hi:i<(gZ keep).length):∃ u,∃ h:u<keep.length,(gZ keep)[i]? =some (u:Int)∧keep[u]=true∧iI keep u=i:=by
 have e:keep.take keep.length=keep:=List.take_length
 obtain ⟨u,h,_,a,b,c⟩:=verts_at keep.length (Nat.le_refl _) i (by rw [e];exact hi)
 rw [e] at a;exact ⟨u,h,a,b,c⟩
theorem verts_ne {keep:List Bool} {v:Nat} (h:v<keep.length) (hk:keep[v]=true):(gZ keep).length≠0:=by
 have:=o4 h hk;omega
theorem kin_true {keep:List Bool} {x:Arc} (h:kin keep x=true):∃ (h1:x.src.toNat<keep.length) (h2:x.dst.toNat<keep.length),keep[x.src.toNat]=true∧keep[x.dst.toNat]=true:=by
 have key:∀ v,keep.getD v false=true→∃ h:v<keep.length,keep[v]=true:=fun v hv=>by
  by_cases hl:v<keep.length
  ·rw [getD_in _ _ hl] at hv;exact ⟨hl,hv⟩
  ·rw [getD_out _ _ aA] at hv;cases hv
 unfold kin at h
 rw [Bool.and_eq_true] at h;obtain ⟨h1,e1⟩:=key _ h.1
 obtain ⟨h2,e2⟩:=key _ h.2
 exact ⟨h1,h2,e1,e2⟩
theorem sub_good {keep:List Bool} {l:List Arc} (hk:keep.length≤1024) (hl:l.length≤8192) (hv:(gZ keep).length≠0):cL ((gZ keep).length:Int) (fL keep l)=(0,0):=by
 have h1:=verts_le keep
 have h2:=sub_len keep l
 refine gcheck_ok ⟨aA,aA⟩ aA fun j hj=>?_;have hm:=List.getElem_mem hj
 unfold fL at hm
 rw [List.mem_map] at hm;obtain ⟨x,hx,e⟩:=hm
 rw [List.mem_filter] at hx;obtain ⟨ha,hb,e1,e2⟩:=kin_true hx.2
 have J:=o4 ha e1
 have F:=o4 hb e2
 unfold fL
 rw [← e]
 unfold gE subArc
 simp;omega
theorem sub_ok {keep:List Bool} {l:List Arc} (hk:keep.length≤1024) (hok:∀ x∈l,eN x):∀ x∈fL keep l,eN x:=by
 intro y hy
 unfold fL at hy
 obtain ⟨x,hx,rfl⟩:=List.mem_map.1 hy
 have F:=hok x (List.mem_filter.1 hx).1
 obtain ⟨ha,hb,e1,e2⟩:=kin_true (List.mem_filter.1 hx).2
 have O:=o4 ha e1
 have J:=o4 hb e2
 have:=verts_le keep
 exact ⟨⟨by show _≤((iI keep x.src.toNat:Nat):Int);omega,by show ((iI keep x.src.toNat:Nat):Int)≤_;omega⟩,⟨by show _≤((iI keep x.dst.toNat:Nat):Int);omega,by show ((iI keep x.dst.toNat:Nat):Int)≤_;omega⟩,F.wt⟩
theorem vrank_inj {keep:List Bool} {u v:Nat} (O:u<keep.length) (hv:v<keep.length) (F:keep[u]=true) (J:keep[v]=true) (e:iI keep u=iI keep v):u=v:=by
 rcases Nat.lt_trichotomy u v with h|h|h
 ·have:=vrank_yes O F;have:=vrank_mono keep (j:=u+1) (k:=v) aA;omega
 ·exact h
 ·have:=vrank_yes hv J;have:=vrank_mono keep (j:=v+1) (k:=u) aA;omega
theorem reg_head {n:Nat} {l:List Arc} {J Z:Nat} {L:List Int} (hg:(cL (n:Int) l).2=0) (hok:RegOk n l J Z L):∃ h:0<L.length,L[0]=(J:Int):=by
 obtain ⟨Y,F⟩:=pL hg
 obtain ⟨E,O⟩:=bfs_lev (rows:=fun v:Nat=>dS (v:Int) l) hok.c F
 have U:=hok.is
 have hm:=hok.m
 have hp:=O.pos
 have X:0<L.length:=by rw [U,List.length_take];omega
 refine ⟨X,?_⟩;have:=O.head.1
 rw [List.getElem?_eq_getElem hp] at this;subst U;rw [List.getElem_take];exact Option.some.inj this
theorem nc_looked {n:Nat} {l:List Arc} {c most:Int} (F:ncE (n:Int) l c most=0) (J:(eX (n:Int) l c most).1.length≠n):gS (kB n l c most) (oW (prs n l) (fR n l c most)) 0 1=0:=by
 unfold ncE at F
 by_cases h1:(eX (n:Int) l c most).2≠0
 ·rw [if_pos h1] at F;exact absurd F h1
 ·rw [if_neg h1,if_neg aA,Int.toNat_natCast] at F;exact F
theorem nc_unique {n:Nat} {l:List Arc} {c most:Int} {C C' :List Pr} (h0:ncE (n:Int) l c most=0) (Z:NcΦ n l c most C) (J:NcΦ n l c most C'):C=C' :=by
 by_cases e:(eX (n:Int) l c most).1.length=n
 ·rw [Z.1 e,J.1 e]
 ·obtain ⟨f,V,sd,hl,hF,hS,rfl⟩:=Z.2 e
  obtain ⟨f',V',U,aa,Y,X,rfl⟩:=J.2 e
  have hf:=nc_looked h0 e
  obtain ⟨hk,_,ae,_,ag,_⟩:=flooked_zero hf
  obtain ⟨ad,ac,ab,O⟩:=ncheck_zero hk
  have he:mQ (kB n l c most).toNat (oW (prs n l) (fR n l c most)):=fun x hx=>by
   obtain ⟨j,hj,rfl⟩:=List.mem_iff_getElem.1 hx
   have:=O j hj;omega
  have F:=(Side.same he aA hF Y hS X).2
  have:sd=U:=List.ext_getElem aA fun i h1 h2=>by
   have:=F i aA
   simpa [List.getD_eq_getElem?_getD,h1,h2] using this
  rw [this]
theorem prs_few {n:Nat} {l:List Arc} (hg:∀ a∈l,(0≤a.src∧a.src<(n:Int))∧0≤a.dst∧a.dst<(n:Int)):(prs n l).length≤l.length:=by
 have F:(prs n l).Nodup:=(qG n l).imp fun {a b} h e=>by subst e;unfold ltX at h;omega
 have h1:=List.Nodup.length_le_of_subset F (l₂:=kQ l) fun p hp=>(mem_prs hg).1 hp
 refine Nat.le_trans h1 ?_
 unfold kQ
 rw [List.length_map];exact List.length_filter_le _ _
theorem nc_zero {n:Nat} {l:List Arc} {c most:Int} (h:(eX (n:Int) l c most).2=0):ncE (n:Int) l c most=0:=by
 unfold ncE
 rw [if_neg (by rw [h];simp)]
 by_cases e:((eX (n:Int) l c most).1.length:Int)=n
 ·rw [if_pos e]
 ·rw [if_neg e,Int.toNat_natCast]
  obtain ⟨hg,n',F,J,en,rfl,rfl,hok⟩:=reg_ok h
  obtain rfl:n=n' :=aA
  obtain ⟨ad,ai,ae,Y⟩:=cF hg
  have O:∀ a∈l,(0≤a.src∧a.src<(n:Int))∧0≤a.dst∧a.dst<(n:Int):=fun a ha=>by
   obtain ⟨i,hi,rfl⟩:=List.mem_iff_getElem.1 ha
   have:=Y i hi;omega
  have ab:(eX (n:Int) l (F:Int) (J:Int)).1.length≤n:=pV hok.rng hok.nd
  have aa:0<(eX (n:Int) l (F:Int) (J:Int)).1.length:=(reg_head hg hok).1
  have ag:(i5 (n:Int) l (F:Int) (J:Int)).1.length=min (((eX (n:Int) l (F:Int) (J:Int)).1.length+3) / 4) (eX (n:Int) l (F:Int) (J:Int)).1.length:=by unfold i5;simp only [List.length_take]
  have hN:kB n l (F:Int) (J:Int)=2+((eX (n:Int) l (F:Int) (J:Int)).1.length:Int) - ((i5 (n:Int) l (F:Int) (J:Int)).1.length:Int):=rfl
  have U:=ndTo_rng (eX (n:Int) l (F:Int) (J:Int)).1 (i5 (n:Int) l (F:Int) (J:Int)).1.length n (eX (n:Int) l (F:Int) (J:Int)).1.length aA _ (Nat.le_refl _)
  have ac:(fR n l (F:Int) (J:Int)).length=n:=ndTo_len _ _ _ _
  have Z:=prs_few O
  have hlen:=cutE_len (fR n l (F:Int) (J:Int)) (prs n l)
  have X:∀ u:Int,0≤u→u<(n:Int)→0≤nd (fR n l (F:Int) (J:Int)) u∧nd (fR n l (F:Int) (J:Int)) u<kB n l (F:Int) (J:Int):=fun u ah aj=>by
   rw [nd_at aA];have:=U _ (List.getElem_mem (show u.toNat<(fR n l (F:Int) (J:Int)).length by omega))
   rw [hN];exact this
  have hk:jS (kB n l (F:Int) (J:Int)) (oW (prs n l) (fR n l (F:Int) (J:Int)))=(0,0):=ncheck_ok aA aA fun j hj=>by
   have hm:=List.getElem_mem hj
   obtain ⟨p,hp,hq⟩:=List.mem_flatMap.1 hm
   have hr:=jD hp
   have h1:=X p.1 hr.1.1 hr.1.2
   have h2:=X p.2 hr.2.1 hr.2.2
   generalize (oW (prs n l) (fR n l (F:Int) (J:Int)))[j]=x at hq
   split at hq
   ·simp only [List.mem_cons,List.not_mem_nil,or_false] at hq
    rcases hq with rfl|rfl<;>(unfold gE;simp;omega)
   ·cases hq
  unfold gS
  rw [hk,if_neg (by decide),if_neg aA,if_neg (by decide)]
def mkE (N:Int) (l:List Arc) (cs:List Int) (most:Int):Int:=if (cL N l).2≠0 then (cL N l).2 else if 16384<cs.length then 2 else if most<1∨1024<most then 1 else if cs.any (offV N) then 5 else 0
structure Td (cs:List Int) (ents:List (Int×Value×Nat)):Prop where
 yes:∀ q∈cs,∃ c:Int,eS ents q=some (.int .i64 c)∧1≤c∧c≤(cs.length:Int)
 no:∀ q,q∉cs→eS ents q=none
theorem Td.nil:Td [] [] where
 yes:=fun q hq=>by cases hq
 no:=fun q _=>rfl
theorem Td.val {cs:List Int} {ents:List (Int×Value×Nat)} (h:Td cs ents) (q:Int):∃ c:Int,(eS ents q).getD (.int .i64 0)= .int .i64 c∧0≤c∧c≤(cs.length:Int):=by
 by_cases hq:q∈cs
 ·obtain ⟨c,h1,h2,h3⟩:=h.yes q hq
  exact ⟨c,by rw [h1];rfl,aA,h3⟩
 ·exact ⟨0,by rw [h.no q hq];rfl,aA,aA⟩
theorem Td.add {cs:List Int} {ents:List (Int×Value×Nat)} (h:Td cs ents) {q:Int} {c:Int} (J:0≤c) (h1:c≤(cs.length:Int)) (k:Nat):Td (cs++[q]) (fW ents q (.int .i64 (c+1)) k) where
 yes:=fun x hx=>by
  rw [jI]
  by_cases e:x=q
  ·rw [if_pos e];exact ⟨_,rfl,aA,by simp;omega⟩
  ·rw [if_neg e]
   rcases List.mem_append.1 hx with hx|hx
   ·obtain ⟨d,h2,h3,F⟩:=h.yes x hx
    exact ⟨d,h2,h3,by simp;omega⟩
   ·exact absurd (List.mem_singleton.1 hx) e
 no:=fun x hx=>by
  rw [jI,if_neg (fun e=>hx (by simp [e]))];exact h.no x fun hm=>hx (by simp [hm])
structure Tg (cs:List Int) (k:Nat) (ents:List (Int×Value×Nat)):Prop where
 gone:∀ v∈cs.take k,eS ents v=none
 left:∀ v∈cs,v∉cs.take k→∃ c:Int,eS ents v=some (.int .i64 c)∧1≤c
theorem Tg.val {cs:List Int} {k:Nat} {ents:List (Int×Value×Nat)} (h:Tg cs k ents) {v:Int} (hv:v∈cs):∃ c:Int,(eS ents v).getD (.int .i64 0)= .int .i64 c∧(c=0↔v∈cs.take k):=by
 by_cases hm:v∈cs.take k
 ·exact ⟨0,by rw [h.gone v hm];rfl,by simp [hm]⟩
 ·obtain ⟨c,h1,h2⟩:=h.left v hv hm
  exact ⟨c,by rw [h1];rfl,by constructor;intro e;omega;intro e;exact absurd e hm⟩
theorem Tg.skip {cs:List Int} {k:Nat} {ents:List (Int×Value×Nat)} (h:Tg cs k ents) (hk:k<cs.length) (hm:cs[k]∈cs.take k):Tg cs (k+1) ents where
 gone:=fun v hv=>by
  rw [List.take_succ_eq_append_getElem hk] at hv
  rcases List.mem_append.1 hv with hv|hv
  ·exact h.gone v hv
  ·obtain rfl:=List.mem_singleton.1 hv;exact h.gone _ hm
 left:=fun v hv hn=>h.left v hv fun F=>hn (by rw [List.take_succ_eq_append_getElem hk];exact List.mem_append_left _ F)
theorem Tg.del {cs:List Int} {k:Nat} {ents:List (Int×Value×Nat)} (h:Tg cs k ents) (hn:(ents.map (·.1)).Nodup) (hk:k<cs.length):Tg cs (k+1) (mdel ents cs[k]) where
 gone:=fun v hv=>by
  rw [mget_del hn]
  split
  ·rfl
  ·rename_i J
   rw [List.take_succ_eq_append_getElem hk] at hv
   rcases List.mem_append.1 hv with hv|hv
   ·exact h.gone v hv
   ·exact absurd (List.mem_singleton.1 hv) J
 left:=fun v hv F=>by
  rw [List.take_succ_eq_append_getElem hk] at F;rw [mget_del hn,if_neg (fun e=>F (List.mem_append_right _ (by rw [e];exact List.mem_singleton.2 rfl)))];exact h.left v hv fun O=>F (List.mem_append_left _ O)
def OutI (n:Nat) (l:List Arc) (most:Int) (done:List Int) (O:List Pr):Prop:=∀ p,p∈O↔∃ v∈done,∃ C,NcΦ n l v most C∧p∈C
theorem OutI.skip {n:Nat} {l:List Arc} {most:Int} {cs:List Int} {k:Nat} {O:List Pr} (h:OutI n l most (cs.take k) O) (hk:k<cs.length) (hm:cs[k]∈cs.take k):OutI n l most (cs.take (k+1)) O:=fun p=>by
 rw [h p,List.take_succ_eq_append_getElem hk];constructor
 ·rintro ⟨v,hv,h2⟩;exact ⟨v,List.mem_append_left _ hv,h2⟩
 ·rintro ⟨v,hv,h2⟩
  rcases List.mem_append.1 hv with hv|hv
  ·exact ⟨v,hv,h2⟩
  ·obtain rfl:=List.mem_singleton.1 hv;exact ⟨_,hm,h2⟩
theorem OutI.add {n:Nat} {l:List Arc} {most:Int} {cs:List Int} {k:Nat} {O C:List Pr} (h:OutI n l most (cs.take k) O) (hk:k<cs.length) (X:ncE (n:Int) l cs[k] most=0) (J:NcΦ n l cs[k] most C):OutI n l most (cs.take (k+1)) (O++C):=fun p=>by
 rw [List.mem_append,h p,List.take_succ_eq_append_getElem hk];constructor
 ·rintro (⟨v,hv,h2⟩|hp)
  ·exact ⟨v,List.mem_append_left _ hv,h2⟩
  ·exact ⟨cs[k],List.mem_append_right _ (List.mem_singleton.2 rfl),C,J,hp⟩
 ·rintro ⟨v,hv,U,F,hp⟩
  rcases List.mem_append.1 hv with hv|hv
  ·exact .inl ⟨v,hv,U,F,hp⟩
  ·obtain rfl:=List.mem_singleton.1 hv
   exact .inr (by rw [nc_unique X J F];exact hp)
theorem reg_zeroN {n:Nat} {l:List Arc} {c most:Int} (hg:(cL (n:Int) l).2=0) (hc:0≤c∧c<(n:Int)) (hm:1≤most∧most≤1024):(eX (n:Int) l c most).2=0:=by
 unfold eX
 rw [if_neg (by rw [hg];simp),if_neg aA,if_neg aA]
theorem nc_sub {n:Nat} {l:List Arc} {c most:Int} {C:List Pr} (h:NcΦ n l c most C):(∀ p∈C,p∈prs n l)∧C.length≤(prs n l).length:=by
 by_cases e:(eX (n:Int) l c most).1.length=n
 ·rw [h.1 e];exact ⟨fun p hp=>(by cases hp),Nat.zero_le _⟩
 ·obtain ⟨_,_,_,_,_,_,rfl⟩:=h.2 e
  exact ⟨fun p hp=>(List.mem_filter.1 hp).1,List.length_filter_le _ _⟩
theorem prs_one (C:List Pr):(C.flatMap fF).all (·.oneCell')=true:=by
 rw [List.all_eq_true];intro v hv;obtain ⟨p,_,hp⟩:=List.mem_flatMap.1 hv
 simp only [fF,List.mem_cons,List.not_mem_nil,or_false] at hp
 rcases hp with rfl|rfl<;>rfl
theorem Marks1_spec (N:Int) (A:Option Addr) (len cap b:Nat) (i:Int) (w:World) (h2:Ro (Fr w []) w (some ⟨b,0,none⟩) [.int .i64 N,.slice A len cap]):
    Meets Tryz.prog 129 ([.int .i64 i]++[.pointer (some ⟨b,0,none⟩)]) w [] (fun u m=>u= .bool (offV N i)∧m=[]):=by
 obtain ⟨b',o',e',J,F⟩:=h2 aO
 obtain ⟨rfl,rfl⟩:b=b'∧0=o' :=by cases e';exact ⟨rfl,rfl⟩
 refine bG Tryz.func129 rfl Tryz.ntmps129 rfl Owns.nil<|aG fun kh1=>aB 1 rfl<|aD kh1<|aG fun kh2=>aB 3 rfl<|eA 6 rfl (fun g6=>?_) (fun g6=>?_)
 ·refine aB 6 rfl<|aD kh2<|aZ ?_
  exact bO [] Tryz.results129 rfl aP ⟨by unfold offV;rw [decide_eq_true (.inl g6)],rfl⟩
 ·refine aB 1 rfl<|eI rfl rfl (aT eV rfl)<|eI rfl rfl (aH Tryz.isAgg3 rfl (rdS J (F 0 _ rfl)))<|aB 3 rfl<|aD kh2<|aZ ?_
  exact bO [] Tryz.results129 rfl aP ⟨by unfold offV;congr 1;apply decide_eq_decide.2;omega,rfl⟩
theorem Marks_spec (N:Int) (A B:Option Addr) (l:List Arc) (cap:Nat) (cs:List Int) (cb:Nat) (most:Int) (w:World) (hr:Ro (Fr w []) w A (l.flatMap cH)) (hl:l.length≤9223372036854775807) (hN:I64 N) (hok:∀ x∈l,eN x) (hL:Ro (Fr w []) w B (a8 cs)) (hm:cs.length≤9223372036854775807):
    Meets Tryz.prog 82 [.agg #[.int .i64 N,.slice A l.length cap],.slice B cs.length cb,.int .i64 most] w [] (fun u own' =>∃ (M:List Pr) (A' :Option Addr) (c2:Nat) (m' :Seg),u= .tuple #[.slice A' M.length M.length,.int .i64 (mkE N l cs most)]∧own' =[m']∧Own 215 2 (.slice A' M.length c2) M.length (M.flatMap fF) m'∧(mkE N l cs most≠0→M=[])∧(mkE N l cs most=0→M.Pairwise ltX∧OutI N.toNat l most cs M)):=by
 refine bG Tryz.func82 rfl Tryz.ntmps82 rfl Owns.nil<|aG fun kh1=>f_S (cZ rfl rfl fun b3=>?_)
 refine aB 2 rfl<|aD kh1<|aV fun kh2=>aG fun kh3=>f_Q (aQ (vs:=[_,_]) Tryz.isAgg24 Tryz.sizeOf24 rfl rfl ⟨(rdA rfl),(rdA rfl),trivial⟩) ?_
 refine f_S (aW Tryz.call20 rfl (fun w_ hp_=>gF N A l cap w_ (hr.up0 hp_) hl hN hok) ?_);rintro _ _ ⟨rfl,rfl⟩;dsimp only [aK,aJ];refine aB 5 rfl<|aD kh3<|aG fun kh4=>aB 2 rfl<|aD kh4<|aX rfl (fun c24=>?_) (fun c24=>?_)
 ·refine aG fun bc=>aB 3 rfl<|aD bc<|aZ<|dA ?_
  have aa:(cL N l).2≠0:=by simpa using c24
  have he:mkE N l cs most=(cL N l).2:=by unfold mkE;rw [if_pos aa]
  exact dB [[]] Tryz.results82 rfl rfl (show Fly.Sub _ [[]] from aC) ⟨[],none,0,[],by rw [he];rfl,rfl,Own.nil _ _,fun _=>rfl,fun h=>absurd (he.symm.trans h) aa⟩
 ·have hg:(cL N l).2=0:=by simpa using c24
  obtain ⟨bK,bM,bY,bk⟩:=cF hg
  obtain ⟨n,rfl⟩:∃ n:Nat,N=(n:Int):=⟨N.toNat,aA⟩
  have bg:n≤1024:=aA
  have bE:=prs_len bg l
  refine bZ kh2<|aV fun kh6=>aS<|aG fun kh7=>aB 1 rfl<|dY bU rfl<|aB 2 rfl<|aD kh7<|aX rfl (fun c26=>?_) (fun c26=>?_)
  ·refine aG fun bu=>aB 2 rfl<|aD bu<|aZ<|fA<|dA ?_
   have he:mkE (n:Int) l cs most=2:=by unfold mkE;rw [if_neg (by rw [hg];simp),if_pos aA]
   exact dB [[]] Tryz.results82 rfl rfl (show Fly.Sub _ [[]] from aC) ⟨[],none,0,[],by rw [he];rfl,rfl,Own.nil _ _,fun _=>rfl,fun h=>by rw [he] at h;cases h⟩
  ·refine aG fun kh9=>aB 3 rfl<|eA 33 rfl (fun g33=>?_) (fun g33=>?_)
   ·refine aB 4 rfl<|aD kh9<|eW rfl<|aG fun kh10=>aB 2 rfl<|aD kh10<|aZ<|fA<|dA ?_
    have he:mkE (n:Int) l cs most=1:=by unfold mkE;rw [if_neg (by rw [hg];simp),if_neg aA,if_pos aA]
    exact dB [[]] Tryz.results82 rfl rfl (show Fly.Sub _ [[]] from aC) ⟨[],none,0,[],by rw [he];rfl,rfl,Own.nil _ _,fun _=>rfl,fun h=>by rw [he] at h;cases h⟩
   ·refine aB 4 rfl<|aD kh9<|aX rfl (fun c30=>?_) (fun c30=>?_)
    ·refine aG fun aq=>aB 2 rfl<|aD aq<|aZ<|fA<|dA ?_
     have he:mkE (n:Int) l cs most=1:=by unfold mkE;rw [if_neg (by rw [hg];simp),if_neg aA,if_pos aA]
     exact dB [[]] Tryz.results82 rfl rfl (show Fly.Sub _ [[]] from aC) ⟨[],none,0,[],by rw [he];rfl,rfl,Own.nil _ _,fun _=>rfl,fun h=>by rw [he] at h;cases h⟩
    ·refine aG fun kh12=>aB 1 rfl<|f_Q (mH rfl rfl) ?_
     refine f_S (aW Tryz.call75 rfl (fun w_ hp_=>ContG_spec B cs cb (offV (n:Int)) 129 [.pointer (some ⟨b3,0,none⟩)] w_ (hL.up0 hp_) hm Tryz.call129 (fun w' hs i hi=>Marks1_spec (n:Int) A l.length cap b3 i w' (heldRo hp_ hs))) ?_);rintro _ _ ⟨rfl,rfl⟩;dsimp only [aK,aJ];refine aB 1 rfl<|aD kh12<|e8 rfl (fun c37=>?_) (fun c37=>?_)
     ·refine aG fun ak=>aB 2 rfl<|aD ak<|aZ<|fA<|dA ?_
      have he:mkE (n:Int) l cs most=5:=by unfold mkE;rw [if_neg (by rw [hg];simp),if_neg aA,if_neg aA,if_pos c37]
      exact dB [[]] Tryz.results82 rfl rfl (show Fly.Sub _ [[]] from aC) ⟨[],none,0,[],by rw [he];rfl,rfl,Own.nil _ _,fun _=>rfl,fun h=>by rw [he] at h;cases h⟩
     ·have ar:∀ v∈cs,0≤v∧v<(n:Int):=fun v hv=>by
        have h1:=List.any_eq_false.1 c37 v hv
        unfold offV at h1
        simp at h1;omega
      refine dZ<|dI<|bP kh6<|aG fun kh14=>f_S (iY fun ai=>?_)
      refine aB 1 rfl<|aD kh14<|aV fun kh15=>aG fun al=>aB 1 rfl<|dY bU rfl<|aB 1 rfl<|aD al<|aS ?_
      refine dF (α:=Nat×List (Int×Value×Nat)×Nat) [1,2,3,10,42,43] (fun ⟨k,ents,J⟩=>[(44,.int .i64 (k:Int))]) (fun ⟨k,ents,J⟩=>[[(ai,e9 (fun x:Int=> .int .i64 x) ents J)],[(b3,blk [.int .i64 (n:Int),.slice A l.length cap] 24)]]) (fun ⟨k,ents,J⟩=>k≤cs.length∧MOk ents J∧Td (cs.take k) ents) (fun ⟨k,ents,J⟩=>cs.length - k) (0,[],0) ?_ ?_ ?_ ?_
      ·exact aF
      ·exact aC
      ·exact ⟨aA,MOk.nil,Td.nil⟩
      ·rintro ⟨k,ents,J⟩ ⟨bv,F,Y⟩;refine aG fun kh17=>aB 1 rfl<|aD kh17<|aV fun kh18=>aX rfl (fun br=>?_) (fun br=>?_)
       ·have hk:k<cs.length:=aA
        obtain ⟨bb,ob,rfl,ag,ae⟩:=hL (fun e=>by have:=a7 cs;rw [e] at this;simp at this;omega)
        obtain ⟨c,hc,bq,ao⟩:=Y.val cs[k]
        have ba:cs.take (k+1)=cs.take k++[cs[k]]:=List.take_succ_eq_append_getElem hk
        have a1:(cs.take k).length=k:=by rw [List.length_take];omega
        have Z:=Y.add (q:=cs[k]) bq ao J
        rw [← ba] at Z;rw [a1] at ao;refine bZ kh18<|aV fun kh19=>aS<|aG fun kh20=>f_Q (aM bU rfl rfl (ob+k))<|f_Q (aH Tryz.isAgg3 rfl (eC (enc:=(.int .i64 ·)) ag ae hk))<|aB 1 rfl<|aD kh20<|aI<|aB 2 rfl ?_
        refine f_Q (fG kt201 Tryz.zeroValue3 rfl rfl rfl (.int .i64 c) hc)<|f_Q (bF rfl rfl)<|f_Z (fB kt201 rfl rfl rfl rfl ?_)
        refine aY<|dI<|bP kh19<|aI<|f_Q (bF rfl rfl)<|aB 1 rfl<|aY ?_
        refine cV (a6 (k+1,fW ents cs[k] (.int .i64 (c+1)) J,fM ents cs[k] J) (by first|omega|(dsimp only;omega)|(simp;omega)) ⟨aA,F.put _ _,Z⟩ ?_ ?_ ?_)
        ·exact aF
        ·exact aF
        ·exact aC
       ·obtain rfl:k=cs.length:=aA
        rw [List.take_length] at Y;refine cS<|cU<|cU<|eH<|bP kh15<|aG fun kh21=>aB 1 rfl<|aD kh21<|aV fun kh22=>aG fun am=>?_
        refine aB 1 rfl<|dY bU rfl<|aB 1 rfl<|aD am<|aS ?_
        refine dF (α:=Nat×List (Int×Value×Nat)×Nat×List Pr×Value×Seg) [2,3,10,53,54] (fun ⟨k,ents,J,O,vo,X⟩=>[(55,.int .i64 (k:Int)),(13,vo)]) (fun ⟨k,ents,J,O,vo,X⟩=>[[(ai,e9 (fun x:Int=> .int .i64 x) ents J)],X,[(b3,blk [.int .i64 (n:Int),.slice A l.length cap] 24)]]) (fun ⟨k,ents,J,O,vo,X⟩=>k≤cs.length∧MOk ents J∧Tg cs k ents∧Own 215 2 vo O.length (O.flatMap fF) X∧OutI n l most (cs.take k) O∧O.length≤k*8192) (fun ⟨k,ents,J,O,vo,X⟩=>cs.length - k) (0,ents,J,[],.slice none 0 0,[]) ?_ ?_ ?_ ?_
        ·exact aF
        ·exact aC
        ·exact ⟨aA,F,⟨fun v hv=>by simp at hv,fun v hv _=>by obtain ⟨c,h1,h2,_⟩:=Y.yes v hv;exact ⟨c,h1,h2⟩⟩,Own.nil _ _,fun p=>aO,aO⟩
        ·rintro ⟨k,ents,J,O,vo,X⟩ ⟨bv,F,ad,hO,U,bL⟩;obtain ⟨Ao,co,rfl,b1⟩:=hO.val
         refine fJ (e:=[(55,_),(13,_),(2,_),(3,_),(10,_),(53,_),(54,_)]) aF ?_;refine aG fun kh24=>aB 1 rfl<|aD kh24<|aV fun kh25=>aX rfl (fun bh=>?_) (fun bh=>?_)
         ·have hk:k<cs.length:=aA
          obtain ⟨bb,ob,rfl,ag,ae⟩:=hL (fun e=>by have:=a7 cs;rw [e] at this;simp at this;omega)
          have ap:=List.getElem_mem hk
          obtain ⟨c,hc,ab⟩:=ad.val ap
          have ah:=nc_zero (reg_zeroN (most:=most) hg (ar _ ap) aA)
          refine bZ kh25<|aV fun kh26=>aS<|aG fun kh27=>f_Q (aM bU rfl rfl (ob+k))<|f_Q (aH Tryz.isAgg3 rfl (eC (enc:=(.int .i64 ·)) ag ae hk))<|aB 1 rfl<|aD kh27<|aV fun kh28=>aG fun kh29=>?_
          refine aB 2 rfl<|f_Q (fG kt201 Tryz.zeroValue3 rfl rfl rfl (.int .i64 c) hc)<|aB 1 rfl<|aD kh29<|aX rfl (fun c62=>?_) (fun c62=>?_)
          ·have av:cs[k]∈cs.take k:=ab.1 aA
           refine cS<|cU<|eH<|bP kh26<|aI<|f_Q (bF rfl rfl)<|aB 1 rfl<|aY ?_
           refine cV (a6 (k+1,ents,J,O,_,X) (by first|omega|(dsimp only;omega)|(simp;omega)) ⟨aA,F,ad.skip hk av,hO,U.skip hk av,aA⟩ ?_ ?_ ?_)
           ·exact aF
           ·exact aF
           ·exact aC
          ·refine bZ kh28<|aG fun kh30=>aB 2 rfl<|f_Z (o_delete kt201 rfl rfl rfl ?_)
           refine aD kh30<|aG fun kh31=>f_Q (aQ (vs:=[_,_]) Tryz.isAgg24 Tryz.sizeOf24 rfl rfl ⟨(rdA rfl),(rdA rfl),trivial⟩)<|aB 2 rfl ?_
           refine f_S (aW Tryz.call130 rfl (fun w_ hp_=>CutN_spec (n:Int) A l cap cs[k] most w_ (hr.up0 hp_) hl hN hok) ?_);rintro _ _ ⟨C,AC,cC,mC,rfl,rfl,bt,_,bj⟩;rw [ah];have hC:=bj ah
           rw [Int.toNat_natCast] at hC;obtain ⟨bR,bw⟩:=nc_sub hC
           dsimp only [aK,aJ];refine aB 5 rfl<|aD kh31<|aV fun kh32=>aG fun aw=>aB 2 rfl<|aD aw<|d4 rfl aO<|bZ kh32<|aI<|aB 2 rfl ?_
           refine f_S (pJ el154 rfl rfl hO (ys:=C.flatMap fF) (fun a2=>by
             obtain ⟨bC,b2,rfl,rfl⟩:=bt.at_ (by rcases C with _|_;simp at a2;simp)
             exact ⟨bC,0,rfl,oQ _ _ fun j v hj=>rdA (d7 (by simpa using hj))⟩) (dX fF e5 C) (prs_one C) aA aA ?_)
           rintro v77 az ax;obtain ⟨bB,bD,rfl,_⟩:=ax.val
           refine aB 1 rfl<|aY<|dI<|bP kh26<|aI<|f_Q (bF rfl rfl)<|aB 1 rfl<|aY ?_
           refine cV (a6 (k+1,mdel ents cs[k],J,O++C,_,az) (by first|omega|(dsimp only;omega)|(simp;omega)) ⟨aA,F.del _,ad.del F.keys hk,by rw [List.flatMap_append,List.length_append];exact ax,U.add hk ah hC,by rw [List.length_append];have:=prs_few (n:=n) (l:=l) (fun a ha=>by obtain ⟨i,hi,rfl⟩:=List.mem_iff_getElem.1 ha;have:=bk i hi;omega);omega⟩ ?_ ?_ ?_)
           ·exact aF
           ·exact aF
           ·exact aC
         ·obtain rfl:k=cs.length:=aA
          rw [List.take_length] at U
          have an:∀ p∈O,POk p:=fun p hp=>by
            obtain ⟨v,_,C,hC,be⟩:=(U p).1 hp
            have:=jD ((nc_sub hC).1 p be)
            unfold POk;omega
          refine cS<|cU<|cU<|eH<|bP kh22<|aG fun kh34=>aB 1 rfl ?_
          refine f_S (d5 [X] _ Tryz.call131 rfl (by repeat (first|exact Sub.refl|refine aL ?_)) (fun w_ hp_=>SortPr_spec Ao co O X w_ an hO aA hp_.owns) ?_);rintro _ _ ⟨rfl,m2,l2,rfl,au,bp,bf⟩;have bi:=au.length_eq
          rw [← bi];dsimp only [aK,aJ];refine aD kh34<|aG fun kh35=>aB 1 rfl ?_
          refine f_S (d5 [m2] _ Tryz.call134 rfl (by repeat (first|exact Sub.refl|refine aL ?_)) (fun w_ hp_=>CompactPr_spec Ao co l2 m2 w_ bf aA hp_.owns) ?_);rintro bW _ ⟨m3,rfl,ac⟩;obtain ⟨A3,c3,rfl,aj⟩:=ac.val
          dsimp only [aK,aJ];refine f_S (aW Tryz.call133 rfl (fun w_ hp_=>ClipPr_spec A3 (cpt l2).length c3 w_ aj.1 aj.2 (kX ac)) ?_);rintro _ _ ⟨rfl,rfl⟩;dsimp only [aK,aJ];refine aB 2 rfl<|aD kh35<|aZ ?_
          have he:mkE (n:Int) l cs most=0:=by unfold mkE;rw [if_neg (by rw [hg];simp),if_neg aA,if_neg aA,if_neg (by rw [c37];simp)]
          have ay:(cpt l2).Pairwise ltX:=qX (R:=ltX) (fun a b c h1 h2=>by unfold ltX at*;omega) (fun a b h e=>by subst e;unfold ltX at h;omega) bp
          exact dB [m3] Tryz.results82 rfl rfl aC ⟨cpt l2,A3,c3,m3,by rw [he],rfl,ac,fun h=>absurd he h,fun _=>⟨ay,fun p=>by rw [qY,au.mem_iff,Int.toNat_natCast];exact U p⟩⟩
abbrev kI (F bx:Nat) (up:List Nat):List Seg:=[[(F,blk (lC up) 3)],[(bx,blk [.slice (some ⟨F,0,none⟩) up.length up.length] 25)]]
theorem root_spec (O bx:Nat) (up:List Nat) (v:Nat) (w:World) (ho:Owns w (kI O bx up)) (hd:oX up) (hv:v<up.length) (hn:up.length≤1000000):
    Meets Tryz.prog 167 [.int .i64 (v:Int),.pointer (some ⟨bx,0,none⟩)] w (kI O bx up)
      (fun u own' =>u= .int .i64 (dC up v:Int)∧∃ F,own' =kI O bx F∧F.length=up.length∧oX F∧∀ x,dC F x=dC up x):=by
 refine bG Tryz.func167 rfl Tryz.ntmps167 rfl ho ?_
 unfold kI
 refine aG fun kh1=>aB 1 rfl<|aD kh1<|aV fun kh2=>aS ?_
 refine dF (α:=Nat×List Nat) [1] (fun ⟨v',F⟩=>[(0,.int .i64 (v' :Int))]) (fun ⟨v',F⟩=>[[(O,blk (lC F) 3)],[(bx,blk [.slice (some ⟨O,0,none⟩) up.length up.length] 25)]]) (fun ⟨v',F⟩=>F.length=up.length∧v' <F.length∧oX F∧(∀ x,dC F x=dC up x)∧dC up v' =dC up v) (fun ⟨v',F⟩=>v') (v,up) ?_ ?_ ?_ ?_
 ·exact aF
 ·exact aC
 ·exact ⟨rfl,hv,hd,fun _=>rfl,rfl⟩
 ·rintro ⟨v',F⟩ ⟨hl',hv',hd',J,U⟩;have Z:=hd' v' hv'
  have h2:F[v']<F.length:=aA
  have Y:=hd' _ h2
  refine aV fun X=>aG fun kh4=>c7 Tryz.isAgg25 rfl (rdA rfl)<|aB 1 rfl<|f_Q (aM bU rfl rfl (v'))<|f_Q (aH Tryz.isAgg3 rfl (rdA (nats_get hv')))<|aB 2 rfl<|aD kh4<|aX rfl (fun c9=>?_) (fun c9=>?_)
  ·refine bZ X<|aS<|aV fun kh5=>gG 10 rfl aU<|gH Tryz.isAgg25 rfl (rdA rfl)<|dN 1 rfl<|gH Tryz.isAgg25 rfl (rdA rfl)<|gH Tryz.isAgg25 rfl (rdA rfl)<|dN 1 rfl<|dG (aM bU rfl rfl (v')) ?_
   refine dG (aH Tryz.isAgg3 rfl (rdA (nats_get hv')))<|dG (aM bU rfl rfl (F[v']))<|dG (aH Tryz.isAgg3 rfl (rdA (nats_get h2)))<|dG (aM bU rfl rfl (v'))<|eK (i3 ?_)
   refine f_Z (bQ Tryz.sizeOf3 rfl rfl rfl rfl (by rw [l5];omega) (lC (F.set v' F[F[v']])) (nats_set _ _ _) ?_);refine aD kh5<|aI<|c7 Tryz.isAgg25 rfl (rdA rfl)<|aB 1 rfl<|f_Q (aM bU rfl rfl (v'))<|f_Q (aH Tryz.isAgg3 rfl (rdA (nats_set_get hv')))<|aB 1 rfl<|aY<|dI ?_
   refine cV (a6 (F[F[v']],F.set v' F[F[v']]) (by first|omega|(dsimp only;omega)|(simp;omega)) ⟨by simp [hl'],by simp;omega,down_halve hd' hv' h2,fun x=>by rw [rootOf_halve hd' hv' h2];exact J x,by rw [← U,← J,← J,rootOf_two hd' hv' h2]⟩ ?_ ?_ ?_)
   ·exact aF
   ·exact aF
   ·exact aC
  ·refine cS<|cU<|cU<|eH<|bP kh2<|aG fun kh6=>aB 2 rfl<|aD kh6<|aZ ?_
   exact bO (kI O bx F) Tryz.results167 rfl (by unfold kI;rw [hl'];exact Sub.refl) ⟨by rw [← U,← J,f4 hv' aA],F,rfl,hl',hd',J⟩
theorem Parts_spec (N:Int) (A:Option Addr) (l:List Arc) (cap:Nat) (w:World) (hr:Ro (Fr w []) w A (l.flatMap cH)) (hl:l.length≤9223372036854775807) (hN:I64 N) (hok:∀ x∈l,eN x):
    Meets Tryz.prog 135 [.agg #[.int .i64 N,.slice A l.length cap]] w []
      (fun u own' =>if (cL N l).2=0 then ∃ p b,u= .tuple #[.slice (some ⟨b,0,none⟩) N.toNat N.toNat,.int .i64 0]∧own' =[[(b,blk (lC p) 3)]]∧IsParts N.toNat (ends2 l) p
        else u= .tuple #[.slice none 0 0,.int .i64 (cL N l).2]∧own' =[]):=by
 refine bG Tryz.func135 rfl Tryz.ntmps135 rfl Owns.nil<|aG fun kh1=>f_S (cZ rfl rfl fun b1=>?_)
 refine aB 2 rfl<|aD kh1<|aV fun kh2=>aG fun kh3=>f_Q (aQ (vs:=[_,_]) Tryz.isAgg24 Tryz.sizeOf24 rfl rfl ⟨(rdA rfl),(rdA rfl),trivial⟩) ?_
 refine f_S (aW Tryz.call20 rfl (fun w_ J=>gF N A l cap w_ (hr.up0 J) hl hN hok) ?_);rintro _ _ ⟨rfl,rfl⟩;dsimp only [aK,aJ];refine aB 5 rfl<|aD kh3<|aG fun kh4=>aB 2 rfl<|aD kh4<|aX rfl (fun c23=>?_) (fun c23=>?_)
 ·refine aG fun an=>aB 3 rfl<|aD an<|aZ<|dA ?_
  exact dB [] Tryz.results135 rfl rfl aP (by rw [if_neg (by simpa using c23)];exact ⟨rfl,rfl⟩)
 ·have ak:(cL N l).2=0:=by simpa using c23
  obtain ⟨be,ay,hlen,X⟩:=cF ak
  obtain ⟨n,rfl⟩:∃ n:Nat,N=n:=⟨N.toNat,aA⟩
  clear c23;refine bZ kh2<|aG fun kh6=>cN eV rfl<|c7 Tryz.isAgg3 rfl (rdA rfl)<|f_S (e6 eO rfl rfl n rfl aA aA (lC (List.replicate n 0)) (nats_replicate n) fun b27=>?_)
  refine f_S (cX Tryz.zeroValue25 rfl fun Z=>?_);refine f_Z (bQ Tryz.sizeOf25 rfl rfl rfl rfl cG _ rfl ?_);refine aD kh6<|aV fun kh7=>aG fun av=>c7 Tryz.isAgg25 rfl (rdA rfl)<|dY bU rfl<|aB 1 rfl<|aD av<|aS ?_
  refine dF (α:=Nat×List Nat) [1,6,29] (fun ⟨k,up⟩=>[(30,.int .i64 (k:Int))]) (fun ⟨k,up⟩=>[[(b27,blk (lC up) 3)],[(Z,blk [.slice (some ⟨b27,0,none⟩) n n] 25)],[(b1,blk [.int .i64 (n:Int),.slice A l.length cap] 24)]]) (fun ⟨k,up⟩=>k≤n∧up.length=n∧∀ j (h:j<up.length),j<k→up[j]=j) (fun ⟨k,up⟩=>n - k) (0,List.replicate n 0) ?_ ?_ ?_ ?_
  ·exact aF
  ·exact aC
  ·exact ⟨aA,aO,fun j _ h=>aA⟩
  ·rintro ⟨k,up⟩ ⟨ap,hul,ab⟩;refine aG fun kh9=>aB 1 rfl<|aD kh9<|aV fun kh10=>aX rfl (fun aq=>?_) (fun aq=>?_)
   ·refine bZ kh10<|aV fun kh11=>aS<|aG fun kh12=>aB 2 rfl<|aD kh12<|aI<|c7 Tryz.isAgg25 rfl (rdA rfl)<|aB 2 rfl ?_
    have hk:k<n:=aA
    refine f_Q (aM bU rfl rfl (k))<|f_Z (bQ Tryz.sizeOf3 rfl rfl rfl rfl (by rw [l5];omega) (lC (up.set k k)) (nats_set _ _ _) ?_)
    refine aY<|dI<|bP kh11<|aI<|f_Q (bF rfl rfl)<|aB 1 rfl<|aY ?_
    refine cV (a6 (k+1,up.set k k) (by first|omega|(dsimp only;omega)|(simp;omega)) ⟨aA,by simp [hul],fun j h hj=>by rw [List.getElem_set];split<;>first|assumption|exact ab j (by simpa using h) aA⟩ ?_ ?_ ?_)
    ·exact aF
    ·exact aF
    ·exact aC
   ·refine cS<|cU<|cU<|eH<|bP kh7<|aG fun kh13=>f_Q (mH rfl rfl)<|aB 1 rfl<|aD kh13<|aV fun kh14=>?_
    refine aG fun al=>cN gM rfl<|c7 Tryz.isAgg22 rfl (rdA rfl)<|dY j7 rfl<|aB 1 rfl<|aD al<|aS ?_
    refine dF (α:=Nat×List Nat) [1,6,8,40,41] (fun ⟨k,up⟩=>[(42,.int .i64 (k:Int))]) (fun ⟨k,up⟩=>[[(b27,blk (lC up) 3)],[(Z,blk [.slice (some ⟨b27,0,none⟩) n n] 25)],[(b1,blk [.int .i64 (n:Int),.slice A l.length cap] 24)]]) (fun ⟨k,up⟩=>k≤l.length∧up.length=n∧oX up∧Tells up (ends2 (l.take k))) (fun ⟨k,up⟩=>l.length - k) (0,up) ?_ ?_ ?_ ?_
    ·exact aF
    ·exact aC
    ·exact ⟨aA,hul,by have:=up_range hul (fun j h=>ab j h aA);subst this;exact down_range n,by have:=up_range hul (fun j h=>ab j h aA);subst this;exact tells_start n⟩
    ·rintro ⟨k,up⟩ ⟨bf,hul,hd,ht⟩;refine fJ (e:=[(42,_),(1,_),(6,_),(8,_),(40,_),(41,_)]) aF ?_;refine aG fun kh16=>aB 1 rfl<|aD kh16<|aV fun kh17=>aX rfl (fun am=>?_) (fun am=>?_)
     ·refine bZ kh17<|aV fun kh18=>aS<|aG fun kh19=>?_
      have hk:k<l.length:=aA
      obtain ⟨bl,off,rfl,hS,hc⟩:=hr (fH cH dO aA hk)
      obtain ⟨a2,az,a1,ax⟩:=X k hk
      have ai:l[k].src.toNat<up.length:=aA
      have ah:l[k].dst.toNat<up.length:=aA
      have ad:up.length≤1000000:=aA
      have au:l[k].src=(l[k].src.toNat:Int):=aA
      have ao:l[k].dst=(l[k].dst.toNat:Int):=aA
      refine f_Q (aM j7 rfl rfl (off+k*3))<|f_Q (aQ (vs:=cH l[k]) Tryz.isAgg69 Tryz.sizeOf69 rfl rfl (gV dO hS hc hk))<|f_S (cX Tryz.zeroValue69 rfl fun b10=>?_)
      refine f_Z (bS Tryz.sizeOf69 rfl rfl rfl rfl cG _ rfl ?_);refine aD kh19<|aV fun kh20=>cQ [[(b10,blk (cH l[k]) 69)]] rfl<|f_T 0 rfl (aR rfl)<|f_T 1 rfl (aT gC rfl)<|f_T 2 rfl (aH (v:= .int .i64 (l[k].src.toNat:Int)) Tryz.isAgg3 rfl (rdA (by rw [← au];rfl))) ?_
      refine f_T 4 rfl (aR rfl)<|f_T 5 rfl (aT fT rfl)<|f_T 6 rfl (aH (v:= .int .i64 (l[k].dst.toNat:Int)) Tryz.isAgg3 rfl (rdA (by rw [← ao];rfl))) ?_
      refine f_O 3 rfl (jE (kI b27 Z up) _ Tryz.call167 rfl rfl (by unfold kI;rw [hul];exact aL (aL Sub.refl)) (fun w_ J=>root_spec b27 Z up _ w_ J.owns hd ai ad) ?_);rintro _ _ ⟨rfl,U,rfl,hl1,Y,O⟩
      unfold kI
      rw [hl1,hul];dsimp only [aK,aJ];refine ⟨aC,?_⟩;refine f_O 7 rfl (jE (kI b27 Z U) _ Tryz.call167 rfl rfl (by unfold kI;rw [hl1,hul];exact aL (aL Sub.refl)) (fun w_ J=>root_spec b27 Z U _ w_ J.owns Y (hl1▸ah) (hl1▸ad)) ?_);rintro _ _ ⟨rfl,ac,rfl,hl2,hd2,aw⟩
      unfold kI
      rw [hl2,hl1,hul];dsimp only [aK,aJ];refine ⟨aC,?_⟩;refine f_O 8 rfl ((bI rfl).does ⟨aC,?_⟩);refine f_O 9 rfl ((bI rfl).does ⟨aC,?_⟩);refine cO aU<|bP kh20<|aI<|c7 Tryz.isAgg25 rfl (rdA rfl)<|aB 2 rfl<|f_Q (o_max rfl rfl)<|aB 2 rfl<|f_Q (oH rfl rfl) ?_
      have e1:=O l[k].dst.toNat
      have q1:=pB (up:=up) l[k].src.toNat
      have q2:=pB (up:=up) l[k].dst.toNat
      refine f_Q (aM bU rfl rfl (max (dC up l[k].src.toNat) (dC up l[k].dst.toNat)))<|f_Z (bQ Tryz.sizeOf3 rfl rfl rfl rfl (by rw [l5];omega) (lC (ac.set (max (dC up l[k].src.toNat) (dC up l[k].dst.toNat)) (min (dC up l[k].src.toNat) (dC up l[k].dst.toNat)))) (by rw [← nats_set];congr 2;omega) ?_)
      refine aY<|dI<|bP kh18<|aI<|f_Q (bF rfl rfl)<|aB 1 rfl<|aY ?_
      refine cV (a6 (k+1,ac.set (max (dC up l[k].src.toNat) (dC up l[k].dst.toNat)) (min (dC up l[k].src.toNat) (dC up l[k].dst.toNat))) (by first|omega|(dsimp only;omega)|(simp;omega)) ⟨aA,by simp [hl2,hl1,hul],down_join hd2,by rw [ends2_take hk];exact tells_next hd hd2 ht (hl2.trans hl1) (fun x=>(aw x).trans (O x)) (ends2_lt hul X k) ai ah⟩ ?_ ?_ ?_)
      ·exact aF
      ·exact aF
      ·exact aC
     ·refine cS<|cU<|cU<|eH<|bP kh14<|aG fun kh21=>cN eV rfl<|c7 Tryz.isAgg3 rfl (rdA rfl)<|f_S (e6 eO rfl rfl n rfl aA aA (lC (List.replicate n 0)) (nats_replicate n) fun b65=>?_)
      refine aB 1 rfl<|aD kh21<|aG fun kh22=>aB 1 rfl<|aD kh22<|aV fun kh23=>aG fun ag=>aB 1 rfl<|dY bU rfl<|aB 1 rfl ?_
      refine aD ag<|aS ?_
      refine dF (α:=Nat×List Nat×List Nat×Nat) [8,13,67] (fun ⟨k,up,out,nx⟩=>[(68,.int .i64 (k:Int)),(14,.int .i64 (nx:Int))]) (fun ⟨k,up,out,nx⟩=>[[(b27,blk (lC up) 3)],[(Z,blk [.slice (some ⟨b27,0,none⟩) n n] 25)],[(b1,blk [.int .i64 (n:Int),.slice A l.length cap] 24)],[(b65,blk (lC out) 3)]]) (fun ⟨k,up,out,nx⟩=>k≤n∧up.length=n∧oX up∧Tells up (ends2 l)∧kG up k out nx) (fun ⟨k,up,out,nx⟩=>n - k) (0,up,List.replicate n 0,0) ?_ ?_ ?_ ?_
      ·exact aF
      ·exact aC
      ·exact ⟨aA,hul,hd,by rw [show l.take k=l from List.take_of_length_le aA] at ht;exact ht,by have:=labelled_start up;rw [hul] at this;exact this⟩
      ·rintro ⟨k,up,out,nx⟩ ⟨ap,hul,hd,ht,F⟩;have ba:=F.len
       have bc:nx≤k:=by rw [← F.next];exact nxt_le out k
       refine fJ (e:=[(68,_),(14,_),(8,_),(13,_),(67,_)]) aF ?_;refine aG fun kh25=>aB 1 rfl<|aD kh25<|aV fun kh26=>aX rfl (fun ar=>?_) (fun ar=>?_)
       ·refine bZ kh26<|aV fun kh27=>aS<|aG fun kh28=>aB 2 rfl<|aD kh28<|aV fun kh29=>aG fun kh30=>aB 2 rfl ?_
        have aa:k<up.length:=aA
        refine f_S (jE (kI b27 Z up) _ Tryz.call167 rfl rfl (by unfold kI;rw [hul];exact aL (aL Sub.refl)) (fun w_ J=>root_spec b27 Z up k w_ J.owns hd aa aA) ?_);rintro _ _ ⟨rfl,U,rfl,hl1,Y,O⟩
        unfold kI
        rw [hl1,hul];dsimp only [aK,aJ];refine aB 1 rfl<|aD kh30<|aG fun kh31=>aB 3 rfl<|aD kh31<|aX rfl (fun c76=>?_) (fun c76=>?_)
        ·refine aG fun ae=>aB 4 rfl ?_;have aj:dC up k<out.length:=by have:=pB (up:=up) k;omega
         refine f_Q (aM bU rfl rfl (dC up k))<|f_Q (aH Tryz.isAgg3 rfl (rdA (nats_get aj)))<|f_Q (aM bU rfl rfl (k))<|f_Z (bQ Tryz.sizeOf3 rfl rfl rfl rfl (by rw [l5];omega) (lC (out.set k out[dC up k])) (nats_set _ _ _) ?_)
         refine aD ae<|cS<|cU<|eH<|bP kh27<|aI<|f_Q (bF rfl rfl)<|aB 1 rfl<|aY ?_
         refine cV (a6 (k+1,U,out.set k out[dC up k],nx) (by first|omega|(dsimp only;omega)|(simp;omega)) ⟨aA,hl1.trans hul,Y,tells_roots ht hl1 O,by exact labelled_roots (labelled_old hd F aa aA aj) hl1 O⟩ ?_ ?_ ?_)
         ·exact aF
         ·exact aF
         ·exact aC
        ·refine bZ kh29<|aG fun kh33=>aB 3 rfl<|f_Q (aM bU rfl rfl (k))<|f_Z (bQ Tryz.sizeOf3 rfl rfl rfl rfl (by rw [l5];omega) (lC (out.set k nx)) (nats_set _ _ _) ?_)
         refine aD kh33<|aI<|aB 1 rfl<|f_Q (bF rfl rfl)<|aB 1 rfl<|aY<|dI<|bP kh27<|aI<|f_Q (bF rfl rfl) ?_
         refine aB 1 rfl<|aY ?_
         refine cV (a6 (k+1,U,out.set k nx,nx+1) (by first|omega|(dsimp only;omega)|(simp;omega)) ⟨aA,hl1.trans hul,Y,tells_roots ht hl1 O,by exact labelled_roots (labelled_new hd F aa aA) hl1 O⟩ ?_ ?_ ?_)
         ·exact aF
         ·exact aF
         ·exact aC
       ·refine cS<|cU<|cU<|eH<|bP kh23<|aG fun kh34=>aB 3 rfl<|aD kh34<|aZ ?_
        exact dB [[(b65,blk (lC out) 3)]] Tryz.results135 rfl rfl (by repeat (first|exact aP|refine aL ?_|refine Sub.cast rfl ?_)) (by rw [if_pos ak];exact ⟨out,b65,rfl,rfl,parts_end hul F ht aA⟩)
theorem Meets.flatN {P:Program} {f:FuncId} {args:List Value} {w:World} {own:List Seg} {Φ F:Value→List Seg→Prop}
  (h:Meets P f args w own Φ) (hi:∀ v m,Φ v m→∃ m',F v m'∧m'.flatten=m.flatten):Meets P f args w own F:=
 Calls.mono h fun _ _ ⟨v,m,he,hp,hf⟩=>by
  obtain ⟨m',h1,h2⟩:=hi v m hf
  exact ⟨v,m',he,by rw [h2];exact hp,h1⟩
def natN (p:List Nat):List Int:=p.map fun x:Nat=>(x:Int)
theorem natN_len (p:List Nat):(natN p).length=p.length:=by simp [natN]
theorem natN_ints (p:List Nat):lC p=a8 (natN p):=by simp [lC,natN,a8]
def fE (N:Int):List Pr→Int
 |[]=>0
 |p::r=>if (p.1<0∨N≤p.1)∨p.2<0∨N≤p.2 then 5 else if p.2≤p.1 then 4 else fE N r
def l8 (N:Int) (l:List Arc) (M:List Pr):Int:=if (cL N l).2≠0 then (cL N l).2 else if 16384<M.length then 2 else fE N M
def nS (M:List Pr) (l:List Arc):List Arc:=l.filter fun a=> !decide (nN a∈M)
theorem fE_drop {N:Int} {M:List Pr} {k:Nat} (hk:k<M.length):fE N (M.drop k)=if (M[k].1<0∨N≤M[k].1)∨M[k].2<0∨N≤M[k].2 then 5 else if M[k].2≤M[k].1 then 4 else fE N (M.drop (k+1)):=by
 rw [← List.getElem_cons_drop hk];rfl
theorem u64_ge {x N:Int} (hx:I64 x) (F:I64 N) (J:0≤N):IntKind.u64.wrap N≤IntKind.u64.wrap x↔x<0∨N≤x:=by
 rw [n7 hx,n7 F]
 unfold I64 at hx F
 split<;>split<;>omega
structure MkI (ps:List Pr) (ents:List ((Int×Int)×Value×Nat)):Prop where
 yes:∀ q∈ps,∃ c:Int,eS ents q=some (.int .i64 c)∧1≤c∧c≤(ps.length:Int)
 no:∀ q,q∉ps→eS ents q=none
theorem MkI.nil:MkI [] [] where
 yes:=fun q hq=>by cases hq
 no:=fun q _=>rfl
theorem MkI.val {ps:List Pr} {ents:List ((Int×Int)×Value×Nat)} (h:MkI ps ents) (q:Pr):∃ c:Int,(eS ents q).getD (.int .i64 0)= .int .i64 c∧0≤c∧c≤(ps.length:Int)∧(c=0↔q∉ps):=by
 by_cases hq:q∈ps
 ·obtain ⟨c,h1,h2,h3⟩:=h.yes q hq
  exact ⟨c,by rw [h1];rfl,aA,h3,by constructor;intro e;omega;intro e;exact absurd hq e⟩
 ·exact ⟨0,by rw [h.no q hq];rfl,aA,aA,by simp [hq]⟩
theorem MkI.add {ps:List Pr} {ents:List ((Int×Int)×Value×Nat)} (h:MkI ps ents) {q:Pr} {c:Int} (hc:(eS ents q).getD (.int .i64 0)= .int .i64 c) (J:0≤c) (h1:c≤(ps.length:Int)) (k:Nat):MkI (ps++[q]) (fW ents q (.int .i64 (c+1)) k) where
 yes:=fun x hx=>by
  rw [jI]
  by_cases e:x=q
  ·rw [if_pos e];exact ⟨_,rfl,aA,by simp;omega⟩
  ·rw [if_neg e]
   rcases List.mem_append.1 hx with hx|hx
   ·obtain ⟨d,h2,h3,F⟩:=h.yes x hx
    exact ⟨d,h2,h3,by simp;omega⟩
   ·exact absurd (List.mem_singleton.1 hx) e
 no:=fun x hx=>by
  rw [jI,if_neg (fun e=>hx (by simp [e]))];exact h.no x fun hm=>hx (by simp [hm])
theorem mget_appN {α:Type} [DecidableEq α] (x:α) (z:Value) (c:Nat):∀ l:List (α×Value×Nat),eS l x=none→eS (l++[(x,z,c)]) x=some z
 |[],_=>by simp [eS]
 |e::r,h=>by
  unfold eS at h
  split at h
  ·cases h
  ·rename_i F
   rw [List.cons_append];unfold eS;rw [if_neg F];exact mget_appN x z c r h
theorem ment_valN {α:Type} [DecidableEq α] (l:List (α×Value×Nat)) (x:α) (z:Value) (c:Nat):(eS (n5 l x z c) x).getD z=(eS l x).getD z:=by
 unfold n5
 split
 ·rfl
 ·rename_i h
  have h' :eS l x=none:=by cases hg:eS l x with
   |none=>rfl
   |some v=>rw [hg] at h;simp at h
  rw [mget_appN x z c l h',h'];rfl
theorem keepA_yes {M:List Pr} {l:List Arc} {i:Nat} (hi:i<l.length) (h:nN l[i]∉M):nS M (l.take (i+1))=nS M (l.take i)++[l[i]]:=by
 unfold nS;rw [List.take_succ_eq_append_getElem hi,List.filter_append];simp [h]
theorem keepA_no {M:List Pr} {l:List Arc} {i:Nat} (hi:i<l.length) (h:nN l[i]∈M):nS M (l.take (i+1))=nS M (l.take i):=by
 unfold nS;rw [List.take_succ_eq_append_getElem hi,List.filter_append];simp [h]
theorem keepA_len (M:List Pr) (l:List Arc):(nS M l).length≤l.length:=List.length_filter_le _ _
theorem keepA_good {n:Nat} {l:List Arc} (hg:(cL (n:Int) l).2=0) (M:List Pr):(cL (n:Int) (nS M l)).2=0:=by
 obtain ⟨h1,h2,h3,F⟩:=cF hg
 rw [gcheck_ok ⟨aA,aA⟩ (by have:=keepA_len M l;omega) fun j hj=>?_];have hm:=(List.mem_filter.1 (List.getElem_mem hj)).1
 obtain ⟨i,hi,e⟩:=List.mem_iff_getElem.1 hm
 have:=F i hi
 rw [e] at this
 unfold gE;simp;omega
theorem keepA_ok {l:List Arc} (M:List Pr) (hok:∀ x∈l,eN x):∀ x∈nS M l,eN x:=fun x hx=>hok x (List.mem_filter.1 hx).1
theorem PartsN_spec (N:Int) (A:Option Addr) (l:List Arc) (cap:Nat) (w:World) (hr:Ro (Fr w []) w A (l.flatMap cH)) (hl:l.length≤9223372036854775807) (F:I64 N) (hok:∀ x∈l,eN x):
  Meets Tryz.prog 135 [.agg #[.int .i64 N,.slice A l.length cap]] w [] (fun u own' =>∃ (P:List Int) (A' :Option Addr) (c:Nat) (m' :Seg),u= .tuple #[.slice A' P.length c,.int .i64 (cL N l).2]∧own' =[m']∧Own 3 1 (.slice A' P.length c) P.length (a8 P) m'∧((cL N l).2=0→∃ p,P=natN p∧IsParts N.toNat (ends2 l) p)∧((cL N l).2≠0→P=[])):=by
 refine Meets.flatN (Parts_spec N A l cap w hr hl F hok) fun v m h=>?_
 by_cases hg:(cL N l).2=0
 ·rw [if_pos hg] at h
  obtain ⟨p,b,rfl,rfl,hp⟩:=h
  have hlen:(natN p).length=N.toNat:=by rw [natN_len,hp.len]
  have hb:=cF hg
  refine ⟨_,⟨natN p,some ⟨b,0,none⟩,N.toNat,[(b,blk (lC p) 3)],by rw [hlen,hg],rfl,?_,fun _=>⟨p,rfl,hp⟩,fun h=>absurd hg h⟩,rfl⟩;rw [natN_ints,hlen];exact Own.mk (by rw [a7,hlen];omega) aA
 ·rw [if_neg hg] at h
  obtain ⟨rfl,rfl⟩:=h
  exact ⟨[[]],⟨[],none,0,[],rfl,rfl,Own.nil _ _,fun h=>absurd h hg,fun _=>rfl⟩,rfl⟩
theorem Fragments_spec (N:Int) (A B:Option Addr) (l:List Arc) (cap:Nat) (M:List Pr) (cb:Nat) (w:World) (hr:Ro (Fr w []) w A (l.flatMap cH)) (hl:l.length≤9223372036854775807) (hN:I64 N) (hok:∀ x∈l,eN x) (hM:Ro (Fr w []) w B (M.flatMap fF)) (hm:M.length≤9223372036854775807) (az:∀ p∈M,I64 p.1∧I64 p.2):
    Meets Tryz.prog 83 [.agg #[.int .i64 N,.slice A l.length cap],.slice B M.length cb] w [] (fun u own' =>∃ (P:List Int) (A' :Option Addr) (c:Nat) (m' :Seg),u= .tuple #[.slice A' P.length c,.int .i64 (l8 N l M)]∧own' =[m']∧Own 3 1 (.slice A' P.length c) P.length (a8 P) m'∧(l8 N l M=0→∃ p,P=natN p∧IsParts N.toNat (ends2 (nS M l)) p)∧(l8 N l M≠0→P=[])):=by
 refine bG Tryz.func83 rfl Tryz.ntmps83 rfl Owns.nil<|aG fun kh1=>f_S (cZ rfl rfl fun b2=>?_)
 refine aB 2 rfl<|aD kh1<|aV fun kh2=>aG fun kh3=>f_Q (aQ (vs:=[_,_]) Tryz.isAgg24 Tryz.sizeOf24 rfl rfl ⟨(rdA rfl),(rdA rfl),trivial⟩) ?_
 refine f_S (aW Tryz.call20 rfl (fun w_ ab=>gF N A l cap w_ (hr.up0 ab) hl hN hok) ?_);rintro _ _ ⟨rfl,rfl⟩;dsimp only [aK,aJ];refine aB 5 rfl<|aD kh3<|aG fun kh4=>aB 2 rfl<|aD kh4<|aX rfl (fun c20=>?_) (fun c20=>?_)
 ·refine aG fun aw=>aB 3 rfl<|aD aw<|aZ<|dA ?_
  have aa:(cL N l).2≠0:=by simpa using c20
  have F:l8 N l M=(cL N l).2:=by unfold l8;rw [if_pos aa]
  exact dB [[]] Tryz.results83 rfl rfl (show Fly.Sub _ [[]] from aC) ⟨[],none,0,[],by rw [F];rfl,rfl,Own.nil _ _,fun h=>absurd (F.symm.trans h) aa,fun _=>rfl⟩
 ·have hg:(cL N l).2=0:=by simpa using c20
  obtain ⟨bk,bq,bB,bu⟩:=cF hg
  obtain ⟨n,rfl⟩:∃ n:Nat,N=(n:Int):=⟨N.toNat,aA⟩
  refine bZ kh2<|aV fun kh6=>aG fun kh7=>aB 1 rfl<|dY iB rfl<|aB 1 rfl<|aD kh7<|aX rfl (fun c24=>?_) (fun c24=>?_)
  ·refine aG fun bi=>aB 2 rfl<|aD bi<|aZ<|dA ?_
   have F:l8 (n:Int) l M=2:=by unfold l8;rw [if_neg (by rw [hg];simp),if_pos aA]
   exact dB [[]] Tryz.results83 rfl rfl (show Fly.Sub _ [[]] from aC) ⟨[],none,0,[],by rw [F];rfl,rfl,Own.nil _ _,fun h=>absurd (F.symm.trans h) (by decide),fun _=>rfl⟩
  ·refine bZ kh6<|aG fun kh9=>f_S (iY fun ai=>?_)
   refine aB 1 rfl<|aD kh9<|aV fun kh10=>aG fun ao=>aB 1 rfl<|dY iB rfl<|aB 1 rfl<|aD ao<|aS ?_
   refine dF (α:=Nat×List ((Int×Int)×Value×Nat)×Nat) [2,8,26,27] (fun ⟨k,ents,O⟩=>[(28,.int .i64 (k:Int))]) (fun ⟨k,ents,O⟩=>[[(ai,e9 oV ents O)],[(b2,blk [.int .i64 (n:Int),.slice A l.length cap] 24)]]) (fun ⟨k,ents,O⟩=>k≤M.length∧MOk ents O∧MkI (M.take k) ents∧fE (n:Int) M=fE (n:Int) (M.drop k)) (fun ⟨k,ents,O⟩=>M.length - k) (0,[],0) ?_ ?_ ?_ ?_
   ·exact aF
   ·exact aC
   ·exact ⟨aA,MOk.nil,MkI.nil,rfl⟩
   ·rintro ⟨k,ents,O⟩ ⟨bC,J,Z,F⟩;refine aG fun kh12=>aB 1 rfl<|aD kh12<|aV fun kh13=>aX rfl (fun a1=>?_) (fun a1=>?_)
    ·have hk:k<M.length:=aA
     obtain ⟨bp,op,rfl,bh,ay⟩:=hM (fH fF e5 aA hk)
     have an:=az _ (List.getElem_mem hk)
     have bv:=u64_ge an.1 hN aA
     have br:=u64_ge an.2 hN aA
     have Y:=fE_drop (N:=(n:Int)) hk
     obtain ⟨c,hc,ap,ae,_⟩:=Z.val M[k]
     have av:M.take (k+1)=M.take k++[M[k]]:=List.take_succ_eq_append_getElem hk
     have ar:(M.take k).length=k:=by rw [List.length_take];omega
     have X:=Z.add hc ap ae O
     rw [← av] at X;rw [ar] at ae;refine bZ kh13<|aV fun kh14=>aS<|aG fun kh15=>f_Q (aM iB rfl rfl (op+k*2))<|f_Q (aQ (vs:=fF M[k]) Tryz.isAgg215 Tryz.sizeOf215 rfl rfl (gV e5 bh ay hk))<|f_S (cX Tryz.zeroValue215 rfl fun b10=>?_)
     refine f_Z (bS Tryz.sizeOf215 rfl rfl rfl rfl cG (fF M[k]) rfl ?_);refine aD kh15<|aV fun kh16=>aS<|aG fun kh17=>cN lX rfl<|c7 Tryz.isAgg3 rfl (rdA rfl)<|f_Q (iH Tryz.runUnderlying3 Tryz.runUnderlying118 rfl _ rfl) ?_
     refine cN eV rfl<|c7 Tryz.isAgg3 rfl (rdA rfl)<|f_Q (iH Tryz.runUnderlying3 Tryz.runUnderlying118 rfl _ rfl) ?_
     refine aB 2 rfl<|eA 40 rfl (fun g40=>?_) (fun g40=>?_)
     ·refine aB 9 rfl<|aD kh17<|eW rfl<|aG fun kh18=>aB 2 rfl<|aD kh18<|aZ<|fA<|dA<|fA ?_
      refine dA<|dA<|fA<|dA ?_
      have F:l8 (n:Int) l M=5:=by unfold l8;rw [if_neg (by rw [hg];simp),if_neg aA,F,Y,if_pos aA]
      exact dB [[]] Tryz.results83 rfl rfl (show Fly.Sub _ [[]] from aC) ⟨[],none,0,[],by rw [F];rfl,rfl,Own.nil _ _,fun h=>absurd (F.symm.trans h) (by decide),fun _=>rfl⟩
     ·refine eI rfl rfl (aT oL rfl)<|eI rfl rfl (aH Tryz.isAgg3 rfl (rdA rfl))<|eI rfl rfl (iH Tryz.runUnderlying3 Tryz.runUnderlying118 rfl _ rfl) ?_;refine eI rfl rfl (aT eV rfl)<|eI rfl rfl (aH Tryz.isAgg3 rfl (rdA rfl))<|eI rfl rfl (iH Tryz.runUnderlying3 Tryz.runUnderlying118 rfl _ rfl) ?_;refine aB 3 rfl<|aD kh17<|aX rfl (fun c32=>?_) (fun c32=>?_)
      ·refine aG fun al=>aB 2 rfl<|aD al<|aZ<|fA<|dA<|fA<|dA<|dA<|fA ?_
       refine dA ?_;have F:l8 (n:Int) l M=5:=by unfold l8;rw [if_neg (by rw [hg];simp),if_neg aA,F,Y,if_pos aA]
       exact dB [[]] Tryz.results83 rfl rfl (show Fly.Sub _ [[]] from aC) ⟨[],none,0,[],by rw [F];rfl,rfl,Own.nil _ _,fun h=>absurd (F.symm.trans h) (by decide),fun _=>rfl⟩
      ·refine aG fun kh20=>cN lX rfl<|c7 Tryz.isAgg3 rfl (rdA rfl)<|cN oL rfl<|c7 Tryz.isAgg3 rfl (rdA rfl)<|aB 2 rfl<|aD kh20<|aX rfl (fun c49=>?_) (fun c49=>?_)
       ·refine aG fun ag=>aB 2 rfl<|aD ag<|aZ<|fA<|dA<|fA<|dA<|dA<|fA ?_
        refine dA ?_;have F:l8 (n:Int) l M=4:=by unfold l8;rw [if_neg (by rw [hg];simp),if_neg aA,F,Y,if_neg aA,if_pos aA]
        exact dB [[]] Tryz.results83 rfl rfl (show Fly.Sub _ [[]] from aC) ⟨[],none,0,[],by rw [F];rfl,rfl,Own.nil _ _,fun h=>absurd (F.symm.trans h) (by decide),fun _=>rfl⟩
       ·refine dZ<|dI<|bP kh16<|cQ [[(b10,blk [.int .i64 M[k].1,.int .i64 M[k].2] 215)]] rfl<|f_T 0 rfl (aR rfl)<|f_T 1 rfl (aQ (vs:=fF M[k]) Tryz.isAgg215 Tryz.sizeOf215 rfl rfl ⟨(rdA rfl),(rdA rfl),trivial⟩)<|gD 2 4 rfl rfl aU rfl rfl rfl rfl rfl rfl ?_ ?_
        ·refine (fG kt218 Tryz.zeroValue3 rfl rfl rfl (key:=M[k]) (.int .i64 c) (by first|exact hc|exact (ment_valN _ _ _ _).trans hc)).does ⟨aC,?_⟩;refine f_T 3 rfl (bF rfl rfl)<|f_O 4 rfl (qH kt218 Tryz.zeroValue3 rfl rfl rfl (key:=M[k]) _ rfl ⟨aC,?_⟩)
         refine f_T 5 rfl (eU rfl rfl)<|fX 6 rfl (mS (key:=M[k]) J rfl rfl rfl ⟨aC,?_⟩)
         refine cO aU<|dI<|bP kh14<|aI<|f_Q (bF rfl rfl)<|aB 1 rfl<|aY ?_
         refine cV (a6 (k+1,fW ents M[k] (.int .i64 (c+1)) O,fM ents M[k] O) (by first|omega|(dsimp only;omega)|(simp;omega)) ⟨aA,J.put _ _,X,F.trans (Y.trans (by rw [if_neg aA,if_neg aA]))⟩ ?_ ?_ ?_)
         ·exact aF
         ·exact aF
         ·exact aC
        ·refine (qH kt218 Tryz.zeroValue3 rfl rfl rfl (key:=M[k]) _ rfl ⟨aC,?_⟩);refine f_T 5 rfl (eU rfl rfl)<|f_O 2 rfl ((fG kt218 Tryz.zeroValue3 rfl rfl rfl (key:=M[k]) (.int .i64 c) (by first|exact hc|exact (ment_valN _ _ _ _).trans hc)).does ⟨aC,?_⟩)
         refine f_T 3 rfl (bF rfl rfl)<|fX 6 rfl (mS (key:=M[k]) J rfl rfl rfl ⟨aC,?_⟩)
         refine cO aU<|dI<|bP kh14<|aI<|f_Q (bF rfl rfl)<|aB 1 rfl<|aY ?_
         refine cV (a6 (k+1,fW ents M[k] (.int .i64 (c+1)) O,fM ents M[k] O) (by first|omega|(dsimp only;omega)|(simp;omega)) ⟨aA,J.put _ _,X,F.trans (Y.trans (by rw [if_neg aA,if_neg aA]))⟩ ?_ ?_ ?_)
         ·exact aF
         ·exact aF
         ·exact aC
    ·obtain rfl:k=M.length:=aA
     rw [List.take_length] at Z;rw [List.drop_length] at F;have ah:l8 (n:Int) l M=0:=by unfold l8;rw [if_neg (by rw [hg];simp),if_neg aA,F];rfl
     refine cS<|cU<|cU<|eH<|bP kh10<|aG fun kh22=>cN eV rfl<|c7 Tryz.isAgg3 rfl (rdA rfl)<|f_Q (dU (cs:=[.int .i64 (n:Int),.slice none 0 0]) st24 rfl rfl)<|f_S (cX Tryz.zeroValue24 rfl fun b11=>?_)
     refine f_Z (bS Tryz.sizeOf24 rfl rfl rfl rfl cG [.int .i64 (n:Int),.slice none 0 0] rfl ?_);refine aD kh22<|aV fun kh23=>aG fun ak=>cN gM rfl<|c7 Tryz.isAgg22 rfl (rdA rfl)<|dY j7 rfl<|aB 1 rfl<|aD ak<|aS ?_
     refine dF (α:=Nat×Value×Seg) [8,11,66,67] (fun ⟨i,sa,ma⟩=>[(68,.int .i64 (i:Int))]) (fun ⟨i,sa,ma⟩=>[[(b11,blk [.int .i64 (n:Int),sa] 24)],ma,[(ai,e9 oV ents O)]]) (fun ⟨i,sa,ma⟩=>i≤l.length∧Own 69 3 sa (nS M (l.take i)).length ((nS M (l.take i)).flatMap cH) ma) (fun ⟨i,sa,ma⟩=>l.length - i) (0,.slice none 0 0,[]) ?_ ?_ ?_ ?_
     ·exact aF
     ·exact aC
     ·exact ⟨aA,Own.nil _ _⟩
     ·rintro ⟨i,sa,ma⟩ ⟨bw,hO⟩;have aj:=keepA_len M (l.take i)
      rw [List.length_take] at aj;obtain ⟨bg,au,rfl,bj⟩:=hO.val
      refine fJ (e:=[(68,_),(8,_),(11,_),(66,_),(67,_)]) aF ?_;refine aG fun kh25=>aB 1 rfl<|aD kh25<|aV fun kh26=>aX rfl (fun a2=>?_) (fun a2=>?_)
      ·have hi:i<l.length:=aA
       obtain ⟨bl,off,rfl,hS,bf⟩:=hr (fH cH dO aA hi)
       obtain ⟨c,hc,ap,ae,U⟩:=Z.val (nN l[i])
       refine bZ kh26<|aV fun kh27=>aS<|aG fun kh28=>f_Q (aM j7 rfl rfl (off+i*3))<|f_Q (aQ (vs:=cH l[i]) Tryz.isAgg69 Tryz.sizeOf69 rfl rfl (gV dO hS bf hi))<|f_S (cX Tryz.zeroValue69 rfl fun b13=>?_)
       refine f_Z (bS Tryz.sizeOf69 rfl rfl rfl rfl cG (cH l[i]) rfl ?_);refine aD kh28<|aG fun kh29=>aB 1 rfl<|cN gC rfl<|c7 Tryz.isAgg3 rfl (rdA rfl)<|cN fT rfl<|c7 Tryz.isAgg3 rfl (rdA rfl)<|f_Q (oH rfl rfl)<|cN gC rfl<|c7 Tryz.isAgg3 rfl (rdA rfl) ?_
       refine cN fT rfl<|c7 Tryz.isAgg3 rfl (rdA rfl)<|f_Q (o_max rfl rfl)<|f_Q (dU (cs:=[.int .i64 (min l[i].src l[i].dst),.int .i64 (max l[i].src l[i].dst)]) st215 rfl rfl)<|f_Q (fG kt218 Tryz.zeroValue3 rfl rfl rfl (key:=nN l[i]) (.int .i64 c) hc)<|aB 1 rfl<|aD kh29<|aX rfl (fun c85=>?_) (fun c85=>?_)
       ·have ac:nN l[i]∉M:=U.1 (by simpa using c85)
        have ad:=keepA_yes hi ac
        refine aI<|cN gM rfl<|c7 Tryz.isAgg22 rfl (rdA rfl)<|f_Q (aQ (vs:=[_,_,_]) Tryz.isAgg69 Tryz.sizeOf69 rfl rfl ⟨(rdA rfl),(rdA rfl),(rdA rfl),trivial⟩)<|f_S (bX el22 aA rfl rfl rfl fun b89=>?_)
        refine f_S (dJ el22 rfl rfl hO (ys:=cH l[i]) ⟨(rdA rfl),(rdA rfl),(rdA rfl),trivial⟩ rfl rfl aA aA fun bt be am=>?_);obtain ⟨aq,ba,rfl,_⟩:=am.val
        refine cN gM rfl<|f_Z (bQ Tryz.sizeOf22 rfl rfl rfl rfl cG [.int .i64 (n:Int),.slice aq ((nS M (l.take i)).length+1) ba] rfl ?_)
        refine aY<|dI<|bP kh27<|aI<|f_Q (bF rfl rfl)<|aB 1 rfl<|aY ?_
        refine cV (a6 (i+1,_,be) (by first|omega|(dsimp only;omega)|(simp;omega)) ⟨aA,by rw [ad,List.flatMap_append,List.length_append];simpa using am⟩ ?_ ?_ ?_)
        ·exact aF
        ·exact aF
        ·exact aC
       ·have ac:nN l[i]∈M:=Classical.byContradiction fun h=>absurd (U.2 h) (by simpa using c85)
        have ad:=keepA_no hi ac
        refine dZ<|dI<|bP kh27<|aI<|f_Q (bF rfl rfl)<|aB 1 rfl<|aY ?_
        refine cV (a6 (i+1,_,ma) (by first|omega|(dsimp only;omega)|(simp;omega)) ⟨aA,by rw [ad];exact hO⟩ ?_ ?_ ?_)
        ·exact aF
        ·exact aF
        ·exact aC
      ·obtain rfl:i=l.length:=aA
       rw [List.take_length] at hO ⊢;refine cS<|cU<|cU<|eH<|bP kh23<|aG fun kh30=>f_Q (aQ (vs:=[_,_]) Tryz.isAgg24 Tryz.sizeOf24 rfl rfl ⟨(rdA rfl),(rdA rfl),trivial⟩) ?_
       refine f_S (aW Tryz.call135 rfl (fun w_ ab=>PartsN_spec (n:Int) bg (nS M l) au w_ (fD (hO.seen ab)) (by have:=keepA_len M l;omega) hN (keepA_ok M hok)) ?_);rintro _ _ ⟨P,AP,cP,mP,rfl,rfl,bc,ax,_⟩;rw [keepA_good hg M];dsimp only [aK,aJ];refine aB 4 rfl<|aD kh30<|aZ ?_
       exact dB [mP] Tryz.results83 rfl rfl aC ⟨P,AP,cP,mP,by rw [ah],rfl,bc,fun _=>ax (keepA_good hg M),fun h=>absurd ah h⟩
end Go.Proofs.YthpkelafioikaaaGreat
