import Derived.Test.YthpkelafioikaaaGreatFlyRun
import Derived.Test.YthpkelafioikaaaGreatAll9
import Derived.Test.YthpkelafioikaaaGreatAll0
import Derived.Test.YthpkelafioikaaaGreatAll2
import Derived.Test.YthpkelafioikaaaGreatFlyMap
import Derived.Test.YthpkelafioikaaaGreatAll3
import Derived.Test.YthpkelafioikaaaGreatAll7
import Derived.Test.YthpkelafioikaaaGreatAll1
namespace Go.Proofs.YthpkelafioikaaaGreat
open Go Go.RowKit Fly
set_option maxRecDepth 100000
set_option maxHeartbeats 4000000
set_option linter.all false
def eV (N:Int) (l:List Arc) (c most:Int):List Int×Int:=
 if (cG N l).2≠0 then ([],(cG N l).2) else if c<0∨N≤c then ([],5) else if most<1∨1024<most then ([],1) else
  ((bfs N.toNat (fun v:Nat=>dS (v:Int) l) c.toNat (List.replicate N.toNat false)).1.take most.toNat,0)
theorem pH {n:Nat} {l:List Arc} (hg:(cG (n:Int) l).2=0):(∀ v:Nat,(dS (v:Int) l).length≤8192)∧∀ v,v<n→∀ u∈dS (v:Int) l,0≤u∧u<(n:Int):=by
 obtain ⟨_,_,hlen,J⟩:=bS hg
 refine ⟨fun v=>?_,fun v _ u O=>?_⟩
 ·unfold dS
  refine Nat.le_trans (kI _) ?_;rw [e6];exact Nat.le_trans (qM v l) hlen
 ·obtain ⟨x,hx,F⟩:=nbrs_mem.1 O
  obtain ⟨i,hi,rfl⟩:=List.mem_iff_getElem.1 hx
  have:=J i hi
  unfold nbr at F
  split at F
  ·simp at F
  ·split at F
   ·simp at F;omega
   ·split at F
    ·simp at F;omega
    ·simp at F
theorem pB (n:Nat) (b:Bool):(List.replicate n [Value.bool b]).flatten=gA (List.replicate n b):=by
 induction n with
 |zero=>rfl
 |succ n ih=>rw [List.replicate_succ,List.flatten_cons,ih];rfl
theorem Region_spec (N:Int) (A:Option Addr) (l:List Arc) (cap:Nat) (c most:Int) (w:World) (hr:Ro (Fr w []) w A (l.flatMap bZ)) (hl:l.length≤9223372036854775807) (hN:I64 N) (hok:∀ x∈l,eK x):
    Meets Tryz.prog 161 [.agg #[.int .i64 N,.slice A l.length cap],.int .i64 c,.int .i64 most] w [] (fun u own' =>∃ s ms,u= .tuple #[s,.int .i64 (eV N l c most).2]∧own' =[ms]∧Own 3 1 s (eV N l c most).1.length (bF (eV N l c most).1) ms):=by
 refine r_enter Tryz.func161 rfl Tryz.ntmps161 rfl Owns.nil ?_;refine dW fun K1 bk=>?_;refine cA ?_;refine fR rfl rfl rfl (Does.toR rfl (cT rfl rfl fun b3=>?_));refine fR rfl rfl rfl (Does.toR rfl (cT rfl rfl fun b5=>?_));refine aQ rfl rfl rfl rfl (bI rfl) ?_;refine aQ rfl rfl rfl rfl (bI rfl) ?_;refine dM ?_;refine d9 (bk _ _ _ ?_);refine dW fun K2 bW=>?_;refine dW fun K3 bL=>?_;refine cA ?_;refine aQ rfl rfl rfl rfl (aO (vs:=[_,_]) Tryz.isAgg24 Tryz.sizeOf24 rfl rfl ⟨(rdA rfl),(rdA rfl),trivial⟩) ?_;refine fR rfl rfl rfl (Does.toR rfl (aV Tryz.call20 rfl (fun w_ ad=>f3 N A l cap w_ (hr.up0 ad) hl hN hok) ?_));rintro _ _ ⟨rfl,rfl⟩;dsimp only [aK,aJ];refine aQ rfl rfl rfl rfl (aU rfl) ?_;refine aQ rfl rfl rfl rfl (eU rfl rfl) ?_;refine aQ rfl rfl rfl rfl (eU rfl rfl) ?_;refine aQ rfl rfl rfl rfl (bI rfl) ?_;refine aQ rfl rfl rfl rfl (bI rfl) ?_;refine dM ?_;refine d9 (bL _ _ _ ?_);refine dW fun K4 bv=>?_;refine cA ?_;refine aQ rfl rfl rfl rfl (aU rfl) ?_;refine aQ rfl rfl rfl rfl (o_neq rfl rfl) ?_;refine dM ?_;refine d9 (bv _ _ _ ?_);refine kF rfl (fun ag=>?_) (fun ag=>?_)
 ·refine dW fun K5 bu=>?_;refine cA ?_;refine aQ rfl rfl rfl rfl (aU rfl) ?_;refine aQ rfl rfl rfl rfl (bI rfl) ?_;refine aQ rfl rfl rfl rfl (bI rfl) ?_;refine dM ?_;refine d9 (bu _ _ _ ?_);refine nF ?_;refine r_tr ?_;have e:eV N l c most=([],(cG N l).2):=if_pos ag
  exact lE [[]] Tryz.results161 rfl rfl (show Fly.Sub _ [[],[]] from aC) ⟨_,_,by rw [e],rfl,by rw [e];exact Own.nil _ _⟩
 ·refine iT ?_;refine d9 (bW _ _ _ ?_);refine dW fun K6 bq=>?_;refine gD ?_;refine dW fun K7 ba=>?_;refine cA ?_;refine aQ rfl rfl rfl rfl (aU rfl) ?_;refine aQ rfl rfl rfl rfl (o_lss rfl rfl) ?_;refine aQ rfl rfl rfl rfl (aU rfl) ?_;refine r_splitL 23 rfl (fun bM=>?_) (fun bM=>?_)
  ·refine r_stepN rfl rfl rfl rfl rfl rfl ?_;refine r_stepN rfl rfl rfl rfl rfl rfl ?_;refine r_stepN rfl rfl rfl rfl rfl rfl ?_;refine r_stepN rfl rfl rfl rfl rfl rfl ?_;refine aQ rfl rfl rfl rfl (qI rfl rfl) ?_;refine aQ rfl rfl rfl rfl (bI rfl) ?_;refine dM ?_;refine d9 (ba _ _ _ ?_);refine r_condT rfl ?_;refine dW fun K8 bt=>?_;refine cA ?_;refine aQ rfl rfl rfl rfl (bI rfl) ?_;refine aQ rfl rfl rfl rfl (bI rfl) ?_;refine dM ?_;refine d9 (bt _ _ _ ?_);refine nF ?_;refine r_br ?_;refine r_tr ?_;have e:eV N l c most=([],5):=by unfold eV;rw [if_neg ag,if_pos aA]
   exact lE [[]] Tryz.results161 rfl rfl (show Fly.Sub _ [[],[]] from aC) ⟨_,_,by rw [e],rfl,by rw [e];exact Own.nil _ _⟩
  ·refine pC rfl rfl rfl rfl rfl rfl (aU rfl) ?_;refine pC rfl rfl rfl rfl rfl rfl (aT eT rfl) ?_;refine pC rfl rfl rfl rfl rfl rfl (aH Tryz.isAgg3 rfl (rdA rfl)) ?_;refine pC rfl rfl rfl rfl rfl rfl (o_geq rfl rfl) ?_;refine aQ rfl rfl rfl rfl (o_pickF rfl rfl) ?_;refine aQ rfl rfl rfl rfl (bI rfl) ?_;refine dM ?_;refine d9 (ba _ _ _ ?_);refine kF rfl (fun br=>?_) (fun br=>?_)
   ·refine dW fun K9 bB=>?_;refine cA ?_;refine aQ rfl rfl rfl rfl (bI rfl) ?_;refine aQ rfl rfl rfl rfl (bI rfl) ?_;refine dM ?_;refine d9 (bB _ _ _ ?_);refine nF ?_;refine r_br ?_;refine r_tr ?_;have e:eV N l c most=([],5):=by unfold eV;rw [if_neg ag,if_pos aA]
    exact lE [[]] Tryz.results161 rfl rfl (show Fly.Sub _ [[],[]] from aC) ⟨_,_,by rw [e],rfl,by rw [e];exact Own.nil _ _⟩
   ·refine dW fun b9 ap=>?_;refine cA ?_;refine aQ rfl rfl rfl rfl (aH Tryz.isAgg3 rfl (rdA rfl)) ?_;refine aQ rfl rfl rfl rfl (o_lss rfl rfl) ?_;refine aQ rfl rfl rfl rfl (aU rfl) ?_;refine r_splitL 32 rfl (fun bw=>?_) (fun bw=>?_)
    ·refine r_stepN rfl rfl rfl rfl rfl rfl ?_;refine r_stepN rfl rfl rfl rfl rfl rfl ?_;refine aQ rfl rfl rfl rfl (qI rfl rfl) ?_;refine aQ rfl rfl rfl rfl (bI rfl) ?_;refine dM ?_;refine d9 (ap _ _ _ ?_);refine r_condT rfl ?_;refine dW fun b8 bg=>?_;refine cA ?_;refine aQ rfl rfl rfl rfl (bI rfl) ?_;refine aQ rfl rfl rfl rfl (bI rfl) ?_;refine dM ?_;refine d9 (bg _ _ _ ?_);refine nF ?_;refine r_br ?_;refine r_tr ?_;have e:eV N l c most=([],1):=by unfold eV;rw [if_neg ag,if_neg aA,if_pos aA]
     exact lE [[]] Tryz.results161 rfl rfl (show Fly.Sub _ [[],[]] from aC) ⟨_,_,by rw [e],rfl,by rw [e];exact Own.nil _ _⟩
    ·refine pC rfl rfl rfl rfl rfl rfl (aH Tryz.isAgg3 rfl (rdA rfl)) ?_;refine pC rfl rfl rfl rfl rfl rfl (o_gtr rfl rfl) ?_;refine aQ rfl rfl rfl rfl (o_pickF rfl rfl) ?_;refine aQ rfl rfl rfl rfl (bI rfl) ?_;refine dM ?_;refine d9 (ap _ _ _ ?_);refine kF rfl (fun bC=>?_) (fun bC=>?_)
     ·refine dW fun ck aw=>?_;refine cA ?_;refine aQ rfl rfl rfl rfl (bI rfl) ?_;refine aQ rfl rfl rfl rfl (bI rfl) ?_;refine dM ?_;refine d9 (aw _ _ _ ?_);refine nF ?_;refine r_br ?_;refine r_tr ?_;have e:eV N l c most=([],1):=by unfold eV;rw [if_neg ag,if_neg aA,if_pos aA]
      exact lE [[]] Tryz.results161 rfl rfl (show Fly.Sub _ [[],[]] from aC) ⟨_,_,by rw [e],rfl,by rw [e];exact Own.nil _ _⟩
     ·refine iT ?_;refine r_bn ?_;refine d9 (bq _ _ _ ?_);refine dW fun cd az=>?_;have hg:(cG N l).2=0:=by simpa using ag
      obtain ⟨cf,ce,bj,ax⟩:=bS hg
      obtain ⟨n,rfl⟩:∃ n:Nat,N=(n:Int):=⟨N.toNat,aA⟩
      obtain ⟨Z,rfl⟩:∃ Z:Nat,c=(Z:Int):=⟨c.toNat,aA⟩
      obtain ⟨O,rfl⟩:∃ O:Nat,most=(O:Int):=⟨most.toNat,aA⟩
      have an:n≤1024:=aA
      obtain ⟨ay,aq⟩:=pH hg
      have Y:eV (n:Int) l (Z:Int) (O:Int)=((bfs n (fun v:Nat=>dS (v:Int) l) Z (List.replicate n false)).1.take O,0):=by unfold eV;rw [if_neg (by rw [hg];simp),if_neg aA,if_neg aA,Int.toNat_natCast,Int.toNat_natCast,Int.toNat_natCast]
      refine cA ?_;refine fR rfl rfl rfl (Does.toR rfl (cQ Tryz.zeroValue25 rfl fun F=>?_));refine dM ?_;refine d9 (az _ _ _ ?_);refine dW fun cj aj=>?_;refine dW fun b2 ao=>?_;refine r_old ?_;refine c7 [[(b3,blk [.int .i64 (n:Int),.slice A l.length cap] 24)]] rfl<|f_T 0 rfl (aO (vs:=[_,_]) Tryz.isAgg24 Tryz.sizeOf24 rfl rfl ⟨(rdA rfl),(rdA rfl),trivial⟩)<|f_T 2 rfl (aU rfl)<|f_T 3 rfl (aT eT rfl)<|f_T 4 rfl (aH Tryz.isAgg3 rfl (rdA rfl))<|gH 1 5 rfl rfl aW rfl rfl rfl rfl rfl rfl ?_ ?_
      ·refine (aV Tryz.call168 rfl (fun w_ ad=>qB n A l cap w_ (hr.up0 ad) an bj ax) ?_);rintro _ _ ⟨bo,vs,ms,rfl,rfl,hR⟩;dsimp only [aK,aJ];refine ⟨aC,?_⟩;refine f_O 5 rfl (eZ el37 rfl rfl n rfl aA aA (gA (List.replicate n false)) (pB n false) fun X=>⟨aC,?_⟩);refine f_O 6 rfl (aV Tryz.call169 rfl (fun w_ ad=>around_spec n bo X (Z:Int) w_) ?_);rintro _ _ ⟨q3,q4,q5,rfl,rfl⟩;dsimp only [aK,aJ];refine ⟨aC,?_⟩;refine cU aW ?_;refine r_new ?_;refine d9 (ao _ _ _ ?_);refine gD ?_;refine r_range (p:=43) (lb:=[.pointer (some ⟨q5,0,none⟩),.pointer (some ⟨q4,0,none⟩),.pointer (some ⟨q3,0,none⟩)]) rfl Tryz.call188 rfl [[(F,blk [.slice none 0 0] 25)],[(b5,blk [.int .i64 (O:Int)] 3)]] [[(q5,blk [.slice (some ⟨X,0,none⟩) n n] 37)],[(q4,blk [.int .i64 (Z:Int)] 3)],[(q3,blk [.slice (some ⟨bo,0,none⟩) n n] 32)],[(X,blk (gA (List.replicate n false)) 4)],[(bo,blk vs 25)],ms.flatten] [] (by repeat (first|exact Sub.refl|exact aP|refine aM ?_|refine cE rfl ?_|refine fU ?_)) (fun y:Int=>Value.int .i64 y) (may:=arMay (bfs n (fun v:Nat=>dS (v:Int) l) Z (List.replicate n false))) (Fin:=arFin (bfs n (fun v:Nat=>dS (v:Int) l) Z (List.replicate n false)) n Z X bo q3 q4 q5 vs ms.flatten) (Stp:=arStp (bfs n (fun v:Nat=>dS (v:Int) l) Z (List.replicate n false)) n Z X bo q3 q4 q5 vs ms.flatten) (fun ak ar ad=>rB n Z X bo q3 q4 q5 l (List.replicate n false) vs ms ar ak aN aA an hR aq ay) (fun ys m=>ys.length<O∧∃ vo J,m=[(F,blk [vo] 25),(b5,blk [.int .i64 (O:Int)] 3)]++J∧Own 3 1 vo ys.length (bF ys) J) (fun ys m=>ys.length=O∧∃ vo J,m=[(F,blk [vo] 25),(b5,blk [.int .i64 (O:Int)] 3)]++J∧Own 3 1 vo ys.length (bF ys) J) (.exit 1) (⟨by show 0<O;omega,.slice none 0 0,[],rfl,Own.nil _ _⟩) ?_ ?_ ?_
       ·intro ak l_ d_ ys y m_ hI bi bp K_ am;obtain ⟨hlt,vo,J,rfl,hO⟩:=hI
        obtain ⟨Ao,co,rfl,al⟩:=hO.val
        refine r_subC (Sub.op3 (parts:=[[(F,blk [.slice Ao ys.length co] 25)],[(b5,blk [.int .i64 (O:Int)] 3)],J]) aN Sub.refl) ?_;dsimp only [aK,aJ];refine cA ?_;refine aQ rfl rfl rfl rfl (bI rfl) ?_;refine dM ?_;refine d9 (am _ _ ?_);clear am;refine gD ?_;refine dW fun cg bh=>?_;refine cA ?_;refine aQ rfl rfl rfl rfl (aH Tryz.isAgg25 rfl (rdA rfl)) ?_;refine aQ rfl rfl rfl rfl (aU rfl) ?_;refine fR rfl rfl rfl (Does.toR rfl (bQ eL aA rfl rfl rfl fun bD=>?_));refine fR rfl rfl rfl (Does.toR rfl (dE eL rfl rfl hO (ys:=[.int .i64 y]) ⟨(rdA rfl),trivial⟩ rfl rfl aA aA fun bR U ah=>?_));obtain ⟨ab,aa,rfl,_⟩:=ah.val
        refine kS rfl rfl (Does.toR rfl (bU Tryz.sizeOf25 rfl rfl rfl rfl cF [.slice ab (ys.length+1) aa] rfl ?_));refine dM ?_;refine d9 (bh _ _ _ ?_);refine dW fun cm be=>?_;refine cA ?_;refine aQ rfl rfl rfl rfl (aH Tryz.isAgg25 rfl (rdA rfl)) ?_;refine aQ rfl rfl rfl rfl (iH bX rfl) ?_;refine aQ rfl rfl rfl rfl (aH Tryz.isAgg3 rfl (rdA rfl)) ?_;refine aQ rfl rfl rfl rfl (o_eql rfl rfl) ?_;refine dM ?_;refine d9 (be _ _ _ ?_);refine kF rfl (fun ai=>?_) (fun ai=>?_)
        ·refine lF ?_;refine r_bo rfl ?_;exact r_roundOut (m' :=[(F,blk [.slice ab (ys.length+1) aa] 25),(b5,blk [.int .i64 (O:Int)] 3)]++U) (.inr ⟨_,rfl,rfl⟩) (Sub.reg (out:=[[(l_,.loop (d_.rc .busy none))],[(d_.D,.deferred (some []))],[(F,blk [.slice ab (ys.length+1) aa] 25)],[(b5,blk [.int .i64 (O:Int)] 3)],U]) aC aN) ⟨by simp at ai ⊢;omega,_,U,rfl,by rw [List.length_append,eJ];exact ah⟩
        ·refine iT ?_;refine r_bn ?_;exact qF (m' :=[(F,blk [.slice ab (ys.length+1) aa] 25),(b5,blk [.int .i64 (O:Int)] 3)]++U) (Sub.reg (out:=[[(l_,.loop (d_.rc .busy none))],[(d_.D,.deferred (some []))],[(F,blk [.slice ab (ys.length+1) aa] 25)],[(b5,blk [.int .i64 (O:Int)] 3)],U]) aC aN) ⟨by simp at ai ⊢;omega,_,U,rfl,by rw [List.length_append,eJ];exact ah⟩
       ·intro D_ ys m_ o_ hF hI;obtain ⟨hlt,vo,J,rfl,hO⟩:=hI
        obtain ⟨Ao,co,rfl,al⟩:=hO.val
        obtain ⟨ac,rfl⟩:=hF
        have ae:(bfs n (fun v:Nat=>dS (v:Int) l) Z (List.replicate n false)).1.take O=ys:=by rw [← ac];exact List.take_of_length_le aA
        refine r_subQ (Sub.op2 (parts:=[[(F,blk [.slice Ao ys.length co] 25)],[(b5,blk [.int .i64 (O:Int)] 3)],J]) aN (show Fly.Sub _ [[(D_,.deferred (some []))],[(F,blk [.slice Ao ys.length co] 25)],J] from by dsimp only [aK,aJ];repeat first|exact aP|refine aM ?_|refine cE rfl ?_|refine fU ?_)) ?_;refine r_bn ?_;refine d9 (aj _ _ _ ?_);refine dW fun bY av=>?_;refine cA ?_;refine aQ rfl rfl rfl rfl (aH Tryz.isAgg25 rfl (rdA rfl)) ?_;refine aQ rfl rfl rfl rfl (bI rfl) ?_;refine aQ rfl rfl rfl rfl (bI rfl) ?_;refine dM ?_;refine d9 (av _ _ _ ?_);refine nF ?_;exact lE [J] Tryz.results161 rfl rfl (show Fly.Sub _ ([(D_,Obj.deferred (some []))]::[J]) from aC) ⟨.slice Ao ys.length co,J,by rw [Y],rfl,by rw [Y];simp only;rw [ae];exact hO⟩
       ·intro D_ ys m_ o_ hF hI;obtain ⟨hlt,vo,J,rfl,hO⟩:=hI
        obtain ⟨Ao,co,rfl,al⟩:=hO.val
        obtain ⟨kk,hkk,ac,b',bK,rfl⟩:=hF
        have ae:(bfs n (fun v:Nat=>dS (v:Int) l) Z (List.replicate n false)).1.take O=ys:=by rw [ac];congr 1;rw [ac,List.length_take] at hlt;omega
        refine r_subC (Sub.op2 (parts:=[[(F,blk [.slice Ao ys.length co] 25)],[(b5,blk [.int .i64 (O:Int)] 3)],J]) aN (show Fly.Sub _ [[(D_,.deferred (some []))],[(F,blk [.slice Ao ys.length co] 25)],J] from by dsimp only [aK,aJ];repeat first|exact aP|refine aM ?_|refine cE rfl ?_|refine fU ?_)) ?_;refine lF ?_;refine r_be ?_;refine d9 (aj _ _ _ ?_);refine dW fun b6 a2=>?_;refine cA ?_;refine aQ rfl rfl rfl rfl (aH Tryz.isAgg25 rfl (rdA rfl)) ?_;refine aQ rfl rfl rfl rfl (bI rfl) ?_;refine aQ rfl rfl rfl rfl (bI rfl) ?_;refine dM ?_;refine d9 (a2 _ _ _ ?_);refine nF ?_;exact lE [J] Tryz.results161 rfl rfl (show Fly.Sub _ ([(D_,Obj.deferred (some []))]::[J]) from aC) ⟨.slice Ao ys.length co,J,by rw [Y],rfl,by rw [Y];simp only;rw [ae];exact hO⟩
      ·refine (eZ el37 rfl rfl n rfl aA aA (gA (List.replicate n false)) (pB n false) fun X=>⟨aC,?_⟩);refine f_O 1 rfl (aV Tryz.call168 rfl (fun w_ ad=>qB n A l cap w_ (hr.up0 ad) an bj ax) ?_);rintro _ _ ⟨bo,vs,ms,rfl,rfl,hR⟩;dsimp only [aK,aJ];refine ⟨aC,?_⟩;refine f_O 6 rfl (aV Tryz.call169 rfl (fun w_ ad=>around_spec n bo X (Z:Int) w_) ?_);rintro _ _ ⟨q3,q4,q5,rfl,rfl⟩;dsimp only [aK,aJ];refine ⟨aC,?_⟩;refine cU aW ?_;refine r_new ?_;refine d9 (ao _ _ _ ?_);refine gD ?_;refine r_range (p:=43) (lb:=[.pointer (some ⟨q5,0,none⟩),.pointer (some ⟨q4,0,none⟩),.pointer (some ⟨q3,0,none⟩)]) rfl Tryz.call188 rfl [[(F,blk [.slice none 0 0] 25)],[(b5,blk [.int .i64 (O:Int)] 3)]] [[(q5,blk [.slice (some ⟨X,0,none⟩) n n] 37)],[(q4,blk [.int .i64 (Z:Int)] 3)],[(q3,blk [.slice (some ⟨bo,0,none⟩) n n] 32)],[(X,blk (gA (List.replicate n false)) 4)],[(bo,blk vs 25)],ms.flatten] [] (by repeat (first|exact Sub.refl|exact aP|refine aM ?_|refine cE rfl ?_|refine fU ?_)) (fun y:Int=>Value.int .i64 y) (may:=arMay (bfs n (fun v:Nat=>dS (v:Int) l) Z (List.replicate n false))) (Fin:=arFin (bfs n (fun v:Nat=>dS (v:Int) l) Z (List.replicate n false)) n Z X bo q3 q4 q5 vs ms.flatten) (Stp:=arStp (bfs n (fun v:Nat=>dS (v:Int) l) Z (List.replicate n false)) n Z X bo q3 q4 q5 vs ms.flatten) (fun ak ar ad=>rB n Z X bo q3 q4 q5 l (List.replicate n false) vs ms ar ak aN aA an hR aq ay) (fun ys m=>ys.length<O∧∃ vo J,m=[(F,blk [vo] 25),(b5,blk [.int .i64 (O:Int)] 3)]++J∧Own 3 1 vo ys.length (bF ys) J) (fun ys m=>ys.length=O∧∃ vo J,m=[(F,blk [vo] 25),(b5,blk [.int .i64 (O:Int)] 3)]++J∧Own 3 1 vo ys.length (bF ys) J) (.exit 1) (⟨by show 0<O;omega,.slice none 0 0,[],rfl,Own.nil _ _⟩) ?_ ?_ ?_
       ·intro ak l_ d_ ys y m_ hI bi bp K_ am;obtain ⟨hlt,vo,J,rfl,hO⟩:=hI
        obtain ⟨Ao,co,rfl,al⟩:=hO.val
        refine r_subC (Sub.op3 (parts:=[[(F,blk [.slice Ao ys.length co] 25)],[(b5,blk [.int .i64 (O:Int)] 3)],J]) aN Sub.refl) ?_;dsimp only [aK,aJ];refine cA ?_;refine aQ rfl rfl rfl rfl (bI rfl) ?_;refine dM ?_;refine d9 (am _ _ ?_);clear am;refine gD ?_;refine dW fun b7 bc=>?_;refine cA ?_;refine aQ rfl rfl rfl rfl (aH Tryz.isAgg25 rfl (rdA rfl)) ?_;refine aQ rfl rfl rfl rfl (aU rfl) ?_;refine fR rfl rfl rfl (Does.toR rfl (bQ eL aA rfl rfl rfl fun bD=>?_));refine fR rfl rfl rfl (Does.toR rfl (dE eL rfl rfl hO (ys:=[.int .i64 y]) ⟨(rdA rfl),trivial⟩ rfl rfl aA aA fun bR U ah=>?_));obtain ⟨ab,aa,rfl,_⟩:=ah.val
        refine kS rfl rfl (Does.toR rfl (bU Tryz.sizeOf25 rfl rfl rfl rfl cF [.slice ab (ys.length+1) aa] rfl ?_));refine dM ?_;refine d9 (bc _ _ _ ?_);refine dW fun b4 a1=>?_;refine cA ?_;refine aQ rfl rfl rfl rfl (aH Tryz.isAgg25 rfl (rdA rfl)) ?_;refine aQ rfl rfl rfl rfl (iH bX rfl) ?_;refine aQ rfl rfl rfl rfl (aH Tryz.isAgg3 rfl (rdA rfl)) ?_;refine aQ rfl rfl rfl rfl (o_eql rfl rfl) ?_;refine dM ?_;refine d9 (a1 _ _ _ ?_);refine kF rfl (fun ai=>?_) (fun ai=>?_)
        ·refine lF ?_;refine r_bo rfl ?_;exact r_roundOut (m' :=[(F,blk [.slice ab (ys.length+1) aa] 25),(b5,blk [.int .i64 (O:Int)] 3)]++U) (.inr ⟨_,rfl,rfl⟩) (Sub.reg (out:=[[(l_,.loop (d_.rc .busy none))],[(d_.D,.deferred (some []))],[(F,blk [.slice ab (ys.length+1) aa] 25)],[(b5,blk [.int .i64 (O:Int)] 3)],U]) aC aN) ⟨by simp at ai ⊢;omega,_,U,rfl,by rw [List.length_append,eJ];exact ah⟩
        ·refine iT ?_;refine r_bn ?_;exact qF (m' :=[(F,blk [.slice ab (ys.length+1) aa] 25),(b5,blk [.int .i64 (O:Int)] 3)]++U) (Sub.reg (out:=[[(l_,.loop (d_.rc .busy none))],[(d_.D,.deferred (some []))],[(F,blk [.slice ab (ys.length+1) aa] 25)],[(b5,blk [.int .i64 (O:Int)] 3)],U]) aC aN) ⟨by simp at ai ⊢;omega,_,U,rfl,by rw [List.length_append,eJ];exact ah⟩
       ·intro D_ ys m_ o_ hF hI;obtain ⟨hlt,vo,J,rfl,hO⟩:=hI
        obtain ⟨Ao,co,rfl,al⟩:=hO.val
        obtain ⟨ac,rfl⟩:=hF
        have ae:(bfs n (fun v:Nat=>dS (v:Int) l) Z (List.replicate n false)).1.take O=ys:=by rw [← ac];exact List.take_of_length_le aA
        refine r_subQ (Sub.op2 (parts:=[[(F,blk [.slice Ao ys.length co] 25)],[(b5,blk [.int .i64 (O:Int)] 3)],J]) aN (show Fly.Sub _ [[(D_,.deferred (some []))],[(F,blk [.slice Ao ys.length co] 25)],J] from by dsimp only [aK,aJ];repeat first|exact aP|refine aM ?_|refine cE rfl ?_|refine fU ?_)) ?_;refine r_bn ?_;refine d9 (aj _ _ _ ?_);refine dW fun b1 au=>?_;refine cA ?_;refine aQ rfl rfl rfl rfl (aH Tryz.isAgg25 rfl (rdA rfl)) ?_;refine aQ rfl rfl rfl rfl (bI rfl) ?_;refine aQ rfl rfl rfl rfl (bI rfl) ?_;refine dM ?_;refine d9 (au _ _ _ ?_);refine nF ?_;exact lE [J] Tryz.results161 rfl rfl (show Fly.Sub _ ([(D_,Obj.deferred (some []))]::[J]) from aC) ⟨.slice Ao ys.length co,J,by rw [Y],rfl,by rw [Y];simp only;rw [ae];exact hO⟩
       ·intro D_ ys m_ o_ hF hI;obtain ⟨hlt,vo,J,rfl,hO⟩:=hI
        obtain ⟨Ao,co,rfl,al⟩:=hO.val
        obtain ⟨kk,hkk,ac,b',bK,rfl⟩:=hF
        have ae:(bfs n (fun v:Nat=>dS (v:Int) l) Z (List.replicate n false)).1.take O=ys:=by rw [ac];congr 1;rw [ac,List.length_take] at hlt;omega
        refine r_subC (Sub.op2 (parts:=[[(F,blk [.slice Ao ys.length co] 25)],[(b5,blk [.int .i64 (O:Int)] 3)],J]) aN (show Fly.Sub _ [[(D_,.deferred (some []))],[(F,blk [.slice Ao ys.length co] 25)],J] from by dsimp only [aK,aJ];repeat first|exact aP|refine aM ?_|refine cE rfl ?_|refine fU ?_)) ?_;refine lF ?_;refine r_be ?_;refine d9 (aj _ _ _ ?_);refine dW fun ci bf=>?_;refine cA ?_;refine aQ rfl rfl rfl rfl (aH Tryz.isAgg25 rfl (rdA rfl)) ?_;refine aQ rfl rfl rfl rfl (bI rfl) ?_;refine aQ rfl rfl rfl rfl (bI rfl) ?_;refine dM ?_;refine d9 (bf _ _ _ ?_);refine nF ?_;exact lE [J] Tryz.results161 rfl rfl (show Fly.Sub _ ([(D_,Obj.deferred (some []))]::[J]) from aC) ⟨.slice Ao ys.length co,J,by rw [Y],rfl,by rw [Y];simp only;rw [ae];exact hO⟩
def iZ (N:Int) (l:List Arc) (c most:Int):List Int×Int:=((eV N l c most).1.take (((eV N l c most).1.length+3) / 4),(eV N l c most).2)
theorem regR_len {N:Int} {l:List Arc} {c most:Int}:(eV N l c most).1.length≤1024:=by
 unfold eV
 split
 ·simp
 ·split
  ·simp
  ·split
   ·simp
   ·simp only [List.length_take];omega
theorem regR_err {N:Int} {l:List Arc} {c most:Int} (h:(eV N l c most).2≠0):(eV N l c most).1=[]:=by
 unfold eV at h ⊢
 split
 ·rfl
 ·split
  ·rfl
  ·split
   ·rfl
   ·rename_i h1 h2 h3;rw [if_neg h1,if_neg h2,if_neg h3] at h;exact absurd rfl h
def offV (N:Int) (v:Int):Bool:=decide (v<0∨N≤v)
theorem Core_spec (N:Int) (A:Option Addr) (l:List Arc) (cap:Nat) (c most:Int) (w:World) (hr:Ro (Fr w []) w A (l.flatMap bZ)) (hl:l.length≤9223372036854775807) (hN:I64 N) (hok:∀ x∈l,eK x):
    Meets Tryz.prog 162 [.agg #[.int .i64 N,.slice A l.length cap],.int .i64 c,.int .i64 most] w [] (fun u own' =>∃ s ms,u= .tuple #[s,.int .i64 (iZ N l c most).2]∧own' =[ms]∧Own 3 1 s (iZ N l c most).1.length (bF (iZ N l c most).1) ms):=by
 have ac:=regR_len (N:=N) (l:=l) (c:=c) (most:=most)
 refine bE Tryz.func162 rfl Tryz.ntmps162 rfl Owns.nil<|aG fun kh1=>f_S (cT rfl rfl fun b3=>?_)
 refine aB 2 rfl<|aD kh1<|aG fun kh2=>f_Q (aO (vs:=[_,_]) Tryz.isAgg24 Tryz.sizeOf24 rfl rfl ⟨(rdA rfl),(rdA rfl),trivial⟩)<|aB 2 rfl ?_
 refine f_S (aV Tryz.call161 rfl (fun Z F=>Region_spec N A l cap c most Z (hr.up0 F) hl hN hok) ?_);rintro _ _ ⟨s,ms,rfl,rfl,ho⟩;obtain ⟨Y,O,rfl,ab⟩:=ho.val
 dsimp only [aK,aJ];refine aB 5 rfl<|aD kh2<|aS fun kh3=>aG fun kh4=>aB 2 rfl<|aD kh4<|aX rfl (fun c18=>?_) (fun c18=>?_)
 ·refine aG fun U=>aB 3 rfl<|aD U<|aY<|cV ?_
  have e1:=regR_err c18
  exact cZ [[]] Tryz.results162 rfl rfl (show Fly.Sub _ [[]] from aC) ⟨_,_,rfl,rfl,by unfold iZ;rw [e1];exact Own.nil _ _⟩
 ·refine bV kh3<|aG fun kh6=>aB 2 rfl<|dU bX rfl<|f_Q (a8 rfl rfl)<|f_Q (o_quo rfl rfl (by decide) (((((eV N l c most).1.length+3) / 4:Nat)):Int) (by rw [show ((((eV N l c most).1.length:Nat):Int)+3)=(((eV N l c most).1.length+3:Nat):Int) by omega,show (4:Int)=((4:Nat):Int) from rfl,tdiv_nat];exact d7 aA)) ?_
  refine f_Q (f7 bX rfl rfl rfl rfl (fun h=>by cases h) 0 (((eV N l c most).1.length+3) / 4) O (.inl ⟨rfl,rfl⟩) (.inr ⟨_,_,rfl,aA⟩) (.inl ⟨rfl,rfl⟩) ⟨aA,aA,aA⟩ (.slice Y (((eV N l c most).1.length+3) / 4) O) (by rw [Nat.sub_zero];congr 1;split;rfl;cases Y with|none=>rfl|some x=>obtain ⟨p,q,r⟩:=x;cases r<;>simp [Addr.add])) ?_;refine f_S (aV Tryz.call56 rfl (fun Z F=>oM Y (((eV N l c most).1.length+3) / 4) (bF ((eV N l c most).1.take (((eV N l c most).1.length+3) / 4))) O Z (by have h:=eS (ho.seen F);rw [← List.take_append_drop (((eV N l c most).1.length+3) / 4) (eV N l c most).1,eJ] at h;exact fun hne=>by obtain ⟨b,off,e,hS,hc⟩:=h (by simp [hne]);exact ⟨b,off,e,hS,fun j v hj=>hc j v (eF hj)⟩) (fun e=>by have:=j5 ho e;omega) (by rw [a7,List.length_take];omega) (ints_oneG _) aA) ?_);rintro aa _ ⟨J,rfl,X⟩;dsimp only [aK,aJ];refine aB 2 rfl<|aD kh6<|aY ?_
  have e0:(eV N l c most).2=0:=by simpa using c18
  exact cZ [J] Tryz.results162 rfl rfl aC ⟨aa,J,by unfold iZ;rw [e0],rfl,by unfold iZ;simp only;rw [List.length_take,Nat.min_eq_left aA];exact X⟩
def gZ (keep:List Bool):List Int:=gF id keep
def iD (keep:List Bool) (v:Nat):Nat:=(gZ (keep.take v)).length
def subArc (keep:List Bool) (x:Arc):Arc:=⟨iD keep x.src.toNat,iD keep x.dst.toNat,x.wt⟩
def kin (keep:List Bool) (x:Arc):Bool:=keep.getD x.src.toNat false&&keep.getD x.dst.toNat false
def fJ (keep:List Bool) (l:List Arc):List Arc:=(l.filter (kin keep)).map (subArc keep)
theorem verts_all {keep:List Bool} {k:Nat} (h:keep.length≤k):gZ (keep.take k)=gZ keep:=by rw [List.take_of_length_le h]
theorem verts_yes {keep:List Bool} {k:Nat} (h:k<keep.length) (hk:keep[k]=true):gZ (keep.take (k+1))=gZ (keep.take k)++[(k:Int)]:=nQ (p:=id) h hk
theorem verts_no {keep:List Bool} {k:Nat} (h:k<keep.length) (hk:keep[k]=false):gZ (keep.take (k+1))=gZ (keep.take k):=lP (p:=id) h hk
theorem verts_le (keep:List Bool):(gZ keep).length≤keep.length:=by unfold gZ;rw [l7];exact List.countP_le_length
theorem verts_take_le (keep:List Bool) (k:Nat):(gZ (keep.take k)).length≤k:=Nat.le_trans (verts_le _) (List.length_take_le _ _)
def Numbers (ents:List (Int×Value×Nat)) (keep:List Bool) (k:Nat):Prop:=∀ j (h:j<keep.length),j<k→keep[j]=true→eR ents (j:Int)=some (.int .i64 (iD keep j:Int))
theorem numbers_start (keep:List Bool):Numbers [] keep 0:=fun j h hj=>aA
theorem numbers_yes {ents:List (Int×Value×Nat)} {keep:List Bool} {k c:Nat} (h:k<keep.length) (hn:Numbers ents keep k) (hk:keep[k]=true):Numbers (fS ents (k:Int) (.int .i64 ((gZ (keep.take k)).length:Int)) c) keep (k+1):=fun j hj J F=>by
 rw [jA]
 by_cases e:j=k
 ·subst e;rw [if_pos rfl];rfl
 ·rw [if_neg aA];exact hn j hj aA F
theorem numbers_no {ents:List (Int×Value×Nat)} {keep:List Bool} {k:Nat} (h:k<keep.length) (hn:Numbers ents keep k) (hk:keep[k]=false):Numbers ents keep (k+1):=fun j hj J F=>by
 by_cases e:j=k
 ·subst e;rw [hk] at F;cases F
 ·exact hn j hj aA F
theorem look_num {ents:List (Int×Value×Nat)} {keep:List Bool} (hn:∀ (j:Nat) (h:j<keep.length),keep[j]=true→eR ents (j:Int)=some (.int .i64 (iD keep j:Int))) {x:Int} (F:0≤x) (h:x.toNat<keep.length) (hk:keep[x.toNat]=true) {z:Value}:
  (eR ents x).getD z= .int .i64 (iD keep x.toNat:Int):=by
 have:=hn x.toNat h hk
 rw [show ((x.toNat:Nat):Int)=x from by omega] at this;rw [this];rfl
theorem kin_get {keep:List Bool} {x:Arc} (h1:x.src.toNat<keep.length) (h2:x.dst.toNat<keep.length):kin keep x=(keep[x.src.toNat]&&keep[x.dst.toNat]):=by
 simp [kin,List.getD_eq_getElem?_getD,h1,h2]
theorem sub_yes {keep:List Bool} {l:List Arc} {k:Nat} (hk:k<l.length) (h:kin keep l[k]=true):fJ keep (l.take (k+1))=fJ keep (l.take k)++[subArc keep l[k]]:=by
 unfold fJ;rw [List.take_succ_eq_append_getElem hk,List.filter_append,List.map_append];simp [h]
theorem sub_no {keep:List Bool} {l:List Arc} {k:Nat} (hk:k<l.length) (h:kin keep l[k]=false):fJ keep (l.take (k+1))=fJ keep (l.take k):=by
 unfold fJ;rw [List.take_succ_eq_append_getElem hk,List.filter_append,List.map_append];simp [h]
theorem sub_len (keep:List Bool) (l:List Arc):(fJ keep l).length≤l.length:=by unfold fJ;rw [List.length_map];exact List.length_filter_le _ _
theorem idxs_len_le {α:Type} (p:α→Bool) (l:List α):(gF p l).length≤l.length:=by rw [l7];exact List.countP_le_length
theorem sub_take_le (keep:List Bool) (l:List Arc) (k:Nat):(fJ keep (l.take k)).length≤k:=Nat.le_trans (sub_len _ _) (List.length_take_le _ _)
theorem idxs_take_le {α:Type} (p:α→Bool) (l:List α) (k:Nat):(gF p (l.take k)).length≤k:=Nat.le_trans (idxs_len_le _ _) (List.length_take_le _ _)
def nA (N:Int) (l:List Arc) (keep:List Bool) (u:Value) (own:List Seg):Prop:=
 if (cG N l).2≠0 then u= .tuple #[.agg #[.int .i64 0,.slice none 0 0],.slice none 0 0,.slice none 0 0,.int .i64 (cG N l).2]∧own=[]
 else if (keep.length:Int)≠N then u= .tuple #[.agg #[.int .i64 0,.slice none 0 0],.slice none 0 0,.slice none 0 0,.int .i64 4]∧own=[]
 else if (gZ keep).length=0 then u= .tuple #[.agg #[.int .i64 0,.slice none 0 0],.slice none 0 0,.slice none 0 0,.int .i64 5]∧own=[]
 else ∃ sa sv sl ma mv ml,u= .tuple #[.agg #[.int .i64 (gZ keep).length,sa],sv,sl,.int .i64 0]∧own=[ma,mv,ml]∧
  Own 69 3 sa (fJ keep l).length ((fJ keep l).flatMap bZ) ma∧Own 3 1 sv (gZ keep).length (bF (gZ keep)) mv∧Own 3 1 sl (gF (kin keep) l).length (bF (gF (kin keep) l)) ml
theorem Induced_spec (N:Int) (A:Option Addr) (l:List Arc) (cap:Nat) (B:Option Addr) (keep:List Bool) (cb:Nat) (w:World) (hr:Ro (Fr w []) w A (l.flatMap bZ)) (hk:Ro (Fr w []) w B (keep.map .bool)) (hl:l.length≤9223372036854775807) (hN:I64 N) (hok:∀ x∈l,eK x):
    Meets Tryz.prog 136 [.agg #[.int .i64 N,.slice A l.length cap],.slice B keep.length cb] w [] (nA N l keep):=by
 refine bE Tryz.func136 rfl Tryz.ntmps136 rfl Owns.nil<|aG fun kh1=>f_S (cT rfl rfl fun b2=>?_)
 refine f_S (cQ Tryz.zeroValue24 rfl fun b4=>?_);refine aB 3 rfl<|aD kh1<|aS fun kh2=>aG fun kh3=>f_Q (aO (vs:=[_,_]) Tryz.isAgg24 Tryz.sizeOf24 rfl rfl ⟨(rdA rfl),(rdA rfl),trivial⟩) ?_
 refine f_S (aV Tryz.call20 rfl (fun w_ bf=>f3 N A l cap w_ (hr.up0 bf) hl hN hok) ?_);rintro _ _ ⟨rfl,rfl⟩;dsimp only [aK,aJ];refine aB 5 rfl<|aD kh3<|aG fun kh4=>aB 2 rfl<|aD kh4<|aX rfl (fun c21=>?_) (fun c21=>?_)
 ·refine aG fun av=>f_Q (dL st24 rfl rfl)<|aB 1 rfl<|f_Z (bP Tryz.sizeOf24 rfl rfl rfl rfl cF _ rfl ?_)
  refine aB 3 rfl<|aD av<|aY<|cV ?_
  exact f_finR4 [] Tryz.results136 (rvA (vs:=[.int .i64 0,.slice none 0 0]) Tryz.isAgg24 Tryz.sizeOf24 rfl rfl ⟨(rdA rfl),(rdA rfl),trivial⟩) (rv rfl) (rv rfl) (rv rfl) aP (by unfold nA;rw [if_pos (by simpa using c21)];exact ⟨rfl,rfl⟩)
 ·have be:(cG N l).2=0:=by simpa using c21
  obtain ⟨bw,bj,hlen,ag⟩:=bS be
  refine bV kh2<|aS fun kh6=>aG fun kh7=>aB 1 rfl<|dU o9 rfl<|cL eT rfl<|cX Tryz.isAgg3 rfl (rdA rfl)<|aB 1 rfl<|aD kh7<|aX rfl (fun c28=>?_) (fun c28=>?_)
  ·refine aG fun ar=>f_Q (dL st24 rfl rfl)<|f_Z (bP Tryz.sizeOf24 rfl rfl rfl rfl cF _ rfl ?_)
   refine aB 3 rfl<|aD ar<|aY<|cV ?_
   exact f_finR4 [] Tryz.results136 (rvA (vs:=[.int .i64 0,.slice none 0 0]) Tryz.isAgg24 Tryz.sizeOf24 rfl rfl ⟨(rdA rfl),(rdA rfl),trivial⟩) (rv rfl) (rv rfl) (rv rfl) aP (by unfold nA;rw [if_neg (by simpa using c21),if_pos aA];exact ⟨rfl,rfl⟩)
  ·have bt:(keep.length:Int)=N:=aA
   refine bV kh6<|aG fun kh9=>f_S (iU fun an=>?_)
   refine aB 1 rfl<|aD kh9<|aS fun kh10=>aG fun ap=>aB 1 rfl<|dU o9 rfl<|aB 1 rfl<|aD ap<|aR ?_
   refine dA (α:=Nat×List (Int×Value×Nat)×Nat×Value×Seg) [1,2,4,6,10,31,32] (fun ⟨k,ents,O,v5,m5⟩=>[(33,.int .i64 (k:Int)),(5,v5)]) (fun ⟨k,ents,O,v5,m5⟩=>[[(an,e7 (fun x:Int=> .int .i64 x) ents O)],m5,[(b2,blk [.int .i64 N,.slice A l.length cap] 24)],[(b4,blk [.int .i64 0,.slice none 0 0] 24)]]) (fun ⟨k,ents,O,v5,m5⟩=>k≤keep.length∧Own 3 1 v5 (gZ (keep.take k)).length (bF (gZ (keep.take k))) m5∧Numbers ents keep k) (fun ⟨k,ents,O,v5,m5⟩=>keep.length - k) (0,[],0,.slice none 0 0,[]) ?_ ?_ ?_ ?_
   ·exact aF
   ·exact aC
   ·exact ⟨aA,Own.nil _ _,numbers_start keep⟩
   ·rintro ⟨k,ents,O,v5,m5⟩ ⟨bC,ac,ab⟩;obtain ⟨A5,bi,rfl,bL⟩:=ac.val
    have bK:=verts_take_le keep k
    refine aG fun kh12=>aB 1 rfl<|aD kh12<|aS fun kh13=>aX rfl (fun bg=>?_) (fun bg=>?_)
    ·refine bV kh13<|aS fun kh14=>aR<|aG fun kh15=>aB 1 rfl ?_
     have hkk:k<keep.length:=aA
     obtain ⟨bk,ok,rfl,ae,ad⟩:=hk (fX hkk)
     refine f_Q (aL o9 rfl rfl (ok+k))<|f_Q (aH Tryz.isAgg4 rfl (d3 (enc:=Value.bool) ae ad hkk))<|aB 2 rfl<|aD kh15<|aG fun kh16=>aB 1 rfl<|aD kh16<|eO rfl (fun c38=>?_) (fun c38=>?_)
     ·refine aG fun am=>aB 3 rfl<|dU bX rfl<|f_Z (e8 kt201 rfl rfl rfl rfl ?_)
      refine aD am<|aI<|aB 2 rfl<|f_S (bQ eL aA rfl rfl rfl fun b45=>?_)
      refine f_S (dE eL rfl rfl ac (ys:=[.int .i64 (k:Int)]) ⟨(rdA rfl),trivial⟩ rfl rfl aA aA fun v46 az ax=>?_);refine aB 1 rfl<|aZ<|dF<|bO kh14<|aI<|f_Q (a8 rfl rfl)<|aB 1 rfl<|aZ ?_
      refine cS (a6 (k+1,fS ents (k:Int) (.int .i64 ((gZ (keep.take k)).length:Int)) O,fK ents (k:Int) O,v46,az) (by first|omega|(dsimp only;omega)|(simp;omega)) ⟨aA,by rw [verts_yes hkk (by simpa using c38),eJ,List.length_append];exact ax,numbers_yes hkk ab (by simpa using c38)⟩ ?_ ?_ ?_)
      ·exact aF
      ·exact aF
      ·exact aC
     ·refine dY<|dF<|bO kh14<|aI<|f_Q (a8 rfl rfl)<|aB 1 rfl<|aZ ?_
      refine cS (a6 (k+1,ents,O,_,m5) (by first|omega|(dsimp only;omega)|(simp;omega)) ⟨aA,by rw [verts_no hkk (by simpa using c38)];exact ac,numbers_no hkk ab (by simpa using c38)⟩ ?_ ?_ ?_)
      ·exact aF
      ·exact aF
      ·exact aC
    ·refine cN<|cO<|cO<|eC<|bO kh10<|aS fun kh18=>aG fun ai=>aB 1 rfl<|dU bX rfl<|aB 1 rfl ?_
     refine aD ai<|aX rfl (fun c50=>?_) (fun c50=>?_)
     ·refine aG fun ak=>f_Q (dL st24 rfl rfl)<|f_Z (bP Tryz.sizeOf24 rfl rfl rfl rfl cF _ rfl ?_)
      refine aB 3 rfl<|aD ak<|aY<|cV ?_
      exact f_finR4 [] Tryz.results136 (rvA (vs:=[.int .i64 0,.slice none 0 0]) Tryz.isAgg24 Tryz.sizeOf24 rfl rfl ⟨(rdA rfl),(rdA rfl),trivial⟩) (rv rfl) (rv rfl) (rv rfl) aP (by unfold nA;rw [if_neg (by simpa using c21),if_neg aA,if_pos (by rw [verts_all aA] at c50;omega)];exact ⟨rfl,rfl⟩)
     ·have hne:¬ (gZ keep).length=0:=by rw [verts_all aA] at c50;omega
      refine bV kh18<|aG fun kh21=>aB 1 rfl<|dU bX rfl<|cL eT rfl<|f_Z (bU Tryz.sizeOf3 rfl rfl rfl rfl cF _ rfl ?_)
      refine aD kh21<|aS fun kh22=>aS fun ao=>?_
      have aa:∀ j (h:j<keep.length),keep[j]=true→eR ents (j:Int)=some (.int .i64 (iD keep j:Int)):=fun j h hj=>ab j h aA hj
      refine aI<|cL fT rfl<|cX Tryz.isAgg22 rfl (rdA rfl)<|dU jB rfl<|aB 1 rfl<|aD ao<|aR ?_
      refine dA (α:=Nat×Value×Seg×Value×Seg) [1,4,5,10,56,57] (fun ⟨i,sa,ma,v6,m6⟩=>[(58,.int .i64 (i:Int)),(6,v6)]) (fun ⟨i,sa,ma,v6,m6⟩=>[[(b4,blk [.int .i64 (gZ (keep.take k)).length,sa] 24)],ma,m6,m5,[(an,e7 (fun x:Int=> .int .i64 x) ents O)],[(b2,blk [.int .i64 N,.slice A l.length cap] 24)]]) (fun ⟨i,sa,ma,v6,m6⟩=>i≤l.length∧Own 69 3 sa (fJ keep (l.take i)).length ((fJ keep (l.take i)).flatMap bZ) ma∧Own 3 1 v6 (gF (kin keep) (l.take i)).length (bF (gF (kin keep) (l.take i))) m6) (fun ⟨i,sa,ma,v6,m6⟩=>l.length - i) (0,.slice none 0 0,[],.slice none 0 0,[]) ?_ ?_ ?_ ?_
      ·exact aF
      ·exact aC
      ·exact ⟨aA,Own.nil _ _,Own.nil _ _⟩
      ·rintro ⟨i,sa,ma,v6,m6⟩ ⟨bq,X,Y⟩;have bM:=sub_take_le keep l i
       have bu:=idxs_take_le (kin keep) l i
       obtain ⟨Aa,aj,rfl,bR⟩:=X.val
       obtain ⟨A6,bh,rfl,bp⟩:=Y.val
       refine fF (e:=[(58,_),(6,_),(1,_),(4,_),(5,_),(10,_),(56,_),(57,_)]) aF ?_;refine aG fun kh24=>aB 1 rfl<|aD kh24<|aS fun kh25=>aX rfl (fun aw=>?_) (fun aw=>?_)
       ·refine bV kh25<|aS fun kh26=>aR<|aG fun kh27=>aB 1 rfl ?_
        have J:i<l.length:=aA
        obtain ⟨bl,off,rfl,hS,hc⟩:=hr (eX bZ dD aA J)
        obtain ⟨a2,bv,ba,bD⟩:=ag i J
        have U:l[i].src.toNat<keep.length:=aA
        have Z:l[i].dst.toNat<keep.length:=aA
        obtain ⟨bk,ok,rfl,ae,ad⟩:=hk (fX U)
        refine f_Q (aL jB rfl rfl (off+i*3))<|f_Q (aO (vs:=bZ l[i]) Tryz.isAgg69 Tryz.sizeOf69 rfl rfl (f8 dD hS hc J))<|f_S (cQ Tryz.zeroValue69 rfl fun b14=>?_)
        refine aB 1 rfl<|f_Z (bP Tryz.sizeOf69 rfl rfl rfl rfl cF _ rfl ?_)
        refine aD kh27<|aG fun kh28=>aB 1 rfl<|cL fY rfl<|cX Tryz.isAgg3 rfl (rdA rfl)<|f_Q (aL o9 rfl rfl (ok+l[i].src.toNat))<|f_Q (aH Tryz.isAgg4 rfl (d3 (enc:=Value.bool) ae ad U))<|aB 1 rfl<|m4 68 rfl (fun g68=>?_) (fun g68=>?_)
        ·refine aB 1 rfl<|eA rfl rfl (aT fO rfl)<|eA rfl rfl (aH Tryz.isAgg3 rfl (rdA rfl))<|eA rfl rfl (aL o9 rfl rfl (ok+l[i].dst.toNat))<|eA rfl rfl (aH Tryz.isAgg4 rfl (d3 (enc:=Value.bool) ae ad Z))<|aB 1 rfl<|aD kh28<|eO rfl (fun c74=>?_) (fun c74=>?_)
         ·have F:kin keep l[i]=true:=by rw [kin_get U Z,g68,c74];rfl
          refine aG fun al=>cL fT rfl<|cX Tryz.isAgg22 rfl (rdA rfl)<|aB 1 rfl<|cL fY rfl<|cX Tryz.isAgg3 rfl (rdA rfl)<|f_Q (fD kt201 Tryz.zeroValue3 rfl rfl rfl (.int .i64 (iD keep l[i].src.toNat:Int)) (by rw [look_num aa a2 U g68])) ?_
          refine aB 1 rfl<|cL fO rfl<|cX Tryz.isAgg3 rfl (rdA rfl)<|f_Q (fD kt201 Tryz.zeroValue3 rfl rfl rfl (.int .i64 (iD keep l[i].dst.toNat:Int)) (by rw [look_num aa ba Z (by simpa using c74)])) ?_
          refine cL fa69_2 rfl<|cX Tryz.isAgg56 rfl (rdA rfl)<|f_Q (dL (cs:=bZ (subArc keep l[i])) st69 rfl rfl)<|f_S (bQ el22 aA rfl rfl rfl fun b88=>?_)
          refine f_S (dE el22 rfl rfl X (ys:=bZ (subArc keep l[i])) ⟨(rdA rfl),(rdA rfl),(rdA rfl),trivial⟩ rfl rfl aA aA fun br bc ah=>?_);obtain ⟨bB,aq,rfl,_⟩:=ah.val
          refine cL fT rfl<|f_Z (bU Tryz.sizeOf22 rfl rfl rfl rfl cF _ rfl ?_)
          refine aD al<|aI<|aB 2 rfl<|f_S (bQ eL aA rfl rfl rfl fun b93=>?_)
          refine f_S (dE eL rfl rfl Y (ys:=[.int .i64 (i:Int)]) ⟨(rdA rfl),trivial⟩ rfl rfl aA aA fun a1 ay au=>?_);refine aB 1 rfl<|aZ<|dF<|bO kh26<|aI<|f_Q (a8 rfl rfl)<|aB 1 rfl<|aZ ?_
          refine cS (a6 (i+1,_,bc,a1,ay) (by first|omega|(dsimp only;omega)|(simp;omega)) ⟨aA,by rw [sub_yes J F,List.flatMap_append,List.length_append];simpa using ah,by rw [nQ J F,eJ,List.length_append];exact au⟩ ?_ ?_ ?_)
          ·exact aF
          ·exact aF
          ·exact aC
         ·have F:kin keep l[i]=false:=by rw [kin_get U Z,g68,c74];rfl
          refine dY<|dF<|bO kh26<|aI<|f_Q (a8 rfl rfl)<|aB 1 rfl<|aZ ?_
          refine cS (a6 (i+1,_,ma,_,m6) (by first|omega|(dsimp only;omega)|(simp;omega)) ⟨aA,by rw [sub_no J F];exact X,by rw [lP J F];exact Y⟩ ?_ ?_ ?_)
          ·exact aF
          ·exact aF
          ·exact aC
        ·have F:kin keep l[i]=false:=by rw [kin_get U Z,g68];rfl
         refine aB 6 rfl<|aD kh28<|iJ rfl<|dY<|dF<|bO kh26<|aI<|f_Q (a8 rfl rfl)<|aB 1 rfl<|aZ ?_
         refine cS (a6 (i+1,_,ma,_,m6) (by first|omega|(dsimp only;omega)|(simp;omega)) ⟨aA,by rw [sub_no J F];exact X,by rw [lP J F];exact Y⟩ ?_ ?_ ?_)
         ·exact aF
         ·exact aF
         ·exact aC
       ·refine cN<|cO<|cO<|eC<|bO kh22<|aG fun kh30=>f_Q (aO (vs:=[_,_]) Tryz.isAgg24 Tryz.sizeOf24 rfl rfl ⟨(rdA rfl),(rdA rfl),trivial⟩)<|aB 2 rfl<|f_Z (bP Tryz.sizeOf24 rfl rfl rfl rfl cF _ rfl ?_)
        refine aB 3 rfl<|aD kh30<|aY ?_
        have et:l.take i=l:=List.take_of_length_le aA
        rw [et] at X Y;have ev:=verts_all (keep:=keep) (k:=k) aA
        rw [ev] at ac;exact f_finR4 [ma,m5,m6] Tryz.results136 (rvA (vs:=[.int .i64 (gZ (keep.take k)).length,.slice Aa (fJ keep (l.take i)).length aj]) Tryz.isAgg24 Tryz.sizeOf24 rfl rfl ⟨(rdA rfl),(rdA rfl),trivial⟩) (rv rfl) (rv rfl) (rv rfl) (by repeat (first|exact aP|refine aM ?_)) (by unfold nA;rw [if_neg (by simpa using c21),if_neg aA,if_neg hne];exact ⟨_,_,_,_,_,_,by rw [ev,et],rfl,X,ac,Y⟩)
structure RegOk (n:Nat) (l:List Arc) (c mn:Nat) (L:List Int):Prop where
 is:L=(bfs n (fun v:Nat=>dS (v:Int) l) c (List.replicate n false)).1.take mn
 c:c<n
 m:1≤mn∧mn≤1024
 rng:∀ x∈L,0≤x∧x<(n:Int)
 nd:L.Nodup
theorem reg_ok {N:Int} {l:List Arc} {c most:Int} (h:(eV N l c most).2=0):(cG N l).2=0∧∃ n F J:Nat,N=(n:Int)∧c=(F:Int)∧most=(J:Int)∧RegOk n l F J (eV N l c most).1:=by
 unfold eV at h ⊢
 by_cases h1:(cG N l).2≠0
 ·rw [if_pos h1] at h;exact absurd h h1
 ·by_cases h2:c<0∨N≤c
  ·rw [if_neg h1,if_pos h2] at h;cases h
  ·by_cases h3:most<1∨1024<most
   ·rw [if_neg h1,if_neg h2,if_pos h3] at h;cases h
   ·rw [if_neg h1,if_neg h2,if_neg h3]
    have hg:(cG N l).2=0:=aA
    have hz:=bS hg
    obtain ⟨n,rfl⟩:∃ n:Nat,N=(n:Int):=⟨N.toNat,aA⟩
    have O:=BInv.go (pH hg).2 (BInv.start (n:=n) (c:=c.toNat) (b:=List.replicate n false) aN aA) n
    refine ⟨hg,n,c.toNat,most.toNat,rfl,aA,aA,rfl,aA,aA,fun x hx=>O.rng x (List.mem_of_mem_take hx),?_⟩;exact O.nd.sublist (List.take_sublist _ _)
theorem fidx_cases {α:Type} (p:α→Bool) (l:List α):(fidx p l= -1∧∀ x∈l,p x=false)∨∃ k,∃ hk:k<l.length,fidx p l=(k:Int)∧p l[k]=true∧∀ j (h:j<l.length),j<k→p l[j]=false:=by
 unfold fidx
 cases hf:l.findIdx? p with
 |none=>exact .inl ⟨rfl,fun x hx=>by rw [List.findIdx?_eq_none_iff] at hf;exact hf x hx⟩
 |some k=>
  rw [List.findIdx?_eq_some_iff_getElem] at hf;obtain ⟨hk,h1,h2⟩:=hf
  exact .inr ⟨k,hk,rfl,h1,fun j h hj=>by have:=h2 j hj;simpa using this⟩
theorem del_start {α:Type} {p:α→Bool} {l:List α} {k:Nat} (hk:k<l.length) (h:p l[k]=true) (F:∀ j (h:j<l.length),j<k→p l[j]=false):l.take k=(l.take (k+1)).filter (fun x=> !p x):=by
 rw [List.take_succ_eq_append_getElem hk,List.filter_append]
 have e1:(l.take k).filter (fun x=> !p x)=l.take k:=List.filter_eq_self.2 fun x hx=>by
  obtain ⟨i,hi,rfl⟩:=List.mem_iff_getElem.1 hx
  have hi' :i<k:=by simp at hi;omega
  rw [List.getElem_take,F i aA hi'];rfl
 rw [e1];simp [h]
theorem del_keep {α:Type} {p:α→Bool} {l d:List α} {i j:Nat} (hj:j<l.length) (J:i<j) (hd:d.length=l.length) (O:d.take i=(l.take j).filter (fun x=> !p x)) (F:d.drop j=l.drop j) (h:p l[j]=false):
  (d.set i l[j]).take (i+1)=(l.take (j+1)).filter (fun x=> !p x)∧(d.set i l[j]).drop (j+1)=l.drop (j+1):=by
 refine ⟨?_,?_⟩
 ·rw [List.take_succ_eq_append_getElem hj,List.filter_append,← O,List.take_succ_eq_append_getElem (show i<(d.set i l[j]).length by simp;omega),List.getElem_set_self,List.take_set_of_le (Nat.le_refl _)]
  simp [h]
 ·rw [List.drop_set_of_lt aA,← List.drop_drop,← List.drop_drop,F]
theorem del_skip {α:Type} {p:α→Bool} {l d:List α} {i j:Nat} (hj:j<l.length) (J:d.take i=(l.take j).filter (fun x=> !p x)) (F:d.drop j=l.drop j) (h:p l[j]=true):d.take i=(l.take (j+1)).filter (fun x=> !p x)∧d.drop (j+1)=l.drop (j+1):=by
 refine ⟨?_,by rw [← List.drop_drop,← List.drop_drop,F]⟩;rw [List.take_succ_eq_append_getElem hj,List.filter_append,← J];simp [h]
theorem del_at {α : Type} {l d : List α} {j : Nat} (hj : j < l.length) (hd : d.length = l.length) (F : d.drop j = l.drop j) : d[j]'aA = l[j] := by
 have:=congrArg (fun x=>x[0]?) F
 simpa [hj,hd] using this
theorem del_zero {α:Type} {enc:α→List Value} {sz:Nat} (hs:∀ x,(enc x).length=sz) {d:List α} {i:Nat} (hi:i≤d.length) (sp ys:List Value) (hy:ys.length=(d.length - i)*sz):jF (d.flatMap enc++sp) (i*sz) ys=(d.take i).flatMap enc++(ys++sp):=by
 have e:d.flatMap enc++sp=(d.take i).flatMap enc++((d.drop i).flatMap enc++sp):=by rw [← List.append_assoc,← List.flatMap_append,List.take_append_drop]
 rw [e];exact kQ ys _ _ _ _ (by rw [dO enc hs,List.length_take,Nat.min_eq_left hi]) (by rw [dO enc hs,hy,List.length_drop])
theorem heldFrN {S:Nat→Prop} {w0 w w' :World} {own fr:List Seg} {b:Nat} {cs:List Value} {T:TypeId} {f:Seg→List Seg} [h:At fr b (blk cs T) f] (hp:Hp S w0 (own++fr).flatten w) (hs:∀ k,Fr w own k→w'.heap[k]? =w.heap[k]?):Ro (Fr w' []) w' (some ⟨b,0,none⟩) cs:=fun hne=>by
 have hm:(b,blk cs T)∈(own++fr).flatten:=by rw [List.flatten_append];exact List.mem_append_right _ h.mem
 have hb:=hp.own b _ hm
 have hlt:=hp.key_lt hm
 have hn:=hp.nodup
 rw [List.flatten_append,List.map_append] at hn;have J:b∉own.flatten.map (·.1):=fun hx=>(List.nodup_append.1 hn).2.2 b hx b (List.mem_map.2 ⟨_,h.mem,rfl⟩) rfl
 have U:=hs b ⟨hlt,J⟩
 have F:w'.heap[b]? =some (blk cs T):=by rw [U,hb]
 have O:b<w'.heap.size:=by
  rcases Nat.lt_or_ge b w'.heap.size with h' |h'
  ·exact h'
  ·rw [Array.getElem?_eq_none h'] at F;cases F
 refine ⟨b,0,rfl,⟨O,aN⟩,fun j v hj=>?_⟩;rw [Nat.zero_add];simp [World.cell?,F,hj]
def qL (reg:List Int) (c n:Nat):Nat→List Int
 |0=>List.replicate n 1
 |k+1=>(qL reg c n k).set (reg.getD k 0).toNat (if k<c then 0 else 2+(k:Int) - (c:Int))
theorem ndTo_succ (reg:List Int) (c n k:Nat):qL reg c n (k+1)=(qL reg c n k).set (reg.getD k 0).toNat (if k<c then 0 else 2+(k:Int) - (c:Int)):=rfl
theorem ndTo_len (reg:List Int) (c n:Nat):∀ k,(qL reg c n k).length=n
 |0=>by simp [qL]
 |k+1=>by unfold qL;rw [List.length_set,ndTo_len reg c n k]
theorem ndTo_rng (reg:List Int) (c n m:Nat) (hc:c≤m):∀ k,k≤m→∀ x∈qL reg c n k,0≤x∧x<2+(m:Int) - (c:Int)
 |0,_,x,hx=>by
  have:=List.eq_of_mem_replicate hx
  omega
 |k+1,h,x,hx=>by
  unfold qL at hx
  rcases List.mem_or_eq_of_mem_set hx with h1|h1
  ·exact ndTo_rng reg c n m hc k aA x h1
  ·subst h1;split<;>omega
def fQ (n:Nat) (l:List Arc) (c most:Int):List Int:=qL (eV (n:Int) l c most).1 (iZ (n:Int) l c most).1.length n (eV (n:Int) l c most).1.length
def j6 (n:Nat) (l:List Arc) (c most:Int):Int:=2+((eV (n:Int) l c most).1.length:Int) - ((iZ (n:Int) l c most).1.length:Int)
def nd (L:List Int) (u:Int):Int:=L.getD u.toNat 0
theorem nd_at {L:List Int} {u:Int} (h:u.toNat<L.length):nd L u=L[u.toNat]:=by simp [nd,h]
def oT (ps:List Pr) (L:List Int):List Arc:=ps.flatMap fun p=>if nd L p.1≠nd L p.2 then [⟨nd L p.1,nd L p.2,1⟩,⟨nd L p.2,nd L p.1,1⟩] else []
theorem cutE_next {ps:List Pr} {L:List Int} {k:Nat} (h:k<ps.length):oT (ps.take (k+1)) L=oT (ps.take k) L++if nd L ps[k].1≠nd L ps[k].2 then [⟨nd L ps[k].1,nd L ps[k].2,1⟩,⟨nd L ps[k].2,nd L ps[k].1,1⟩] else []:=by
 unfold oT;rw [List.take_succ_eq_append_getElem h,List.flatMap_append];simp
theorem cutE_len (L:List Int):∀ ps:List Pr,(oT ps L).length≤2*ps.length
 |[]=>by simp [oT]
 |p::ps=>by
  have ih:=cutE_len L ps
  unfold oT at ih ⊢
  rw [List.flatMap_cons,List.length_append]
  split
  ·simp only [List.length_cons,List.length_nil];omega
  ·simp only [List.length_cons,List.length_nil];omega
theorem cutE_ok {L:List Int} {ps:List Pr} (h:∀ u:Int,I64 (nd L u)):∀ x∈oT ps L,eK x:=fun x hx=>by
 obtain ⟨p,_,hp⟩:=List.mem_flatMap.1 hx
 split at hp
 ·simp only [List.mem_cons,List.not_mem_nil,or_false] at hp
  rcases hp with rfl|rfl
  ·exact ⟨h _,h _,by show (0:Int)≤1;omega,by show (1:Int)≤4294967295;omega⟩
  ·exact ⟨h _,h _,by show (0:Int)≤1;omega,by show (1:Int)≤4294967295;omega⟩
 ·cases hp
def ncE (N:Int) (l:List Arc) (c most:Int):Int:=if (eV N l c most).2≠0 then (eV N l c most).2 else if ((eV N l c most).1.length:Int)=N then 0 else gU (j6 N.toNat l c most) (oT (prs N.toNat l) (fQ N.toNat l c most)) 0 1
def cutB (L:List Int) (sd:List Bool) (p:Pr):Bool:=decide (sd.getD (nd L p.1).toNat false=sd.getD (nd L p.2).toNat false)
theorem reg_rngN {N:Int} {l:List Arc} {c most:Int} (h:(eV N l c most).2=0):∀ x∈(eV N l c most).1,0≤x∧x<N:=by
 obtain ⟨_,n,F,J,rfl,rfl,rfl,hok⟩:=reg_ok h
 exact hok.rng
theorem I64_nd {L:List Int} {m:Int} (hm:m≤1000000) (h:∀ x∈L,0≤x∧x<m) (u:Int):I64 (nd L u):=by
 unfold nd
 rw [List.getD_eq_getElem?_getD]
 cases e:L[u.toNat]? with
 |none=>exact ⟨by decide,by decide⟩
 |some v=>have:=h v (List.mem_of_getElem? e);exact ⟨by simp;omega,by simp;omega⟩
def NcΦ (n:Nat) (l:List Arc) (c most:Int) (C:List Pr):Prop:=
 ((eV (n:Int) l c most).1.length=n→C=[])∧
 ((eV (n:Int) l c most).1.length≠n→∃ (f:List Int) (V:Int) (sd:List Bool),sd.length=(j6 n l c most).toNat∧Flow (j6 n l c most).toNat (oT (prs n l) (fQ n l c most)) 0 1 f V∧Side (j6 n l c most).toNat (oT (prs n l) (fQ n l c most)) 0 1 f (fun v=>sd.getD v false)∧C=(prs n l).filter fun p=> !cutB (fQ n l c most) sd p)
theorem regR_rng {N:Int} {l:List Arc} {c most:Int} (h:(eV N l c most).2=0):(cG N l).2=0:=by
 unfold eV at h
 by_cases h1:(cG N l).2=0
 ·exact h1
 ·rw [if_pos h1] at h;exact absurd h h1
theorem DelP_spec_ix (A:Option Addr) (l:List Pr) (cap:Nat) (O:FuncId) (J:List Value) (p:Pr→Bool) (w:World) (hr:Ro (Fr w []) w A (l.flatMap fC)) (hl:l.length≤1000000000)
    (Y:∀ args w,(callFunc O args).run Tryz.prog w= .ok (.enter O args) w)
    (U:∀ w',(∀ k,Fr w [] k→w'.heap[k]? =w.heap[k]?)→∀ x∈l,Meets Tryz.prog O ([.agg (fC x).toArray]++J) w' [] (fun u m=>u= .bool (p x)∧m=[])):
    Meets Tryz.prog 179 [.slice A l.length cap,.func (.func O) #[] J.toArray] w [] (fun u own' =>u= .int .i64 (fidx p l)∧own' =[]):=by
 refine bE Tryz.func179 rfl Tryz.ntmps179 rfl Owns.nil<|aG fun kh1=>aB 1 rfl<|aD kh1<|aS fun kh2=>aG fun aa=>aB 1 rfl<|dU h7 rfl<|aB 1 rfl<|aD aa ?_
 refine aR ?_;refine lU (α:=Nat) [0,1,7] (fun k=>[(8,.int .i64 (k:Int))]) (fun k=>k≤l.length∧∀ j (h:j<l.length),j<k→p l[j]=false) (fun k=>l.length - k) (0) ?_ ?_ ?_
 ·exact aF
 ·exact ⟨aA,fun j _ h=>aA⟩
 ·rintro k ⟨ab,F⟩;refine aG fun kh4=>aB 1 rfl<|aD kh4<|aS fun kh5=>aX rfl (fun c9=>?_) (fun c9=>?_)
  ·refine bV kh5<|aS fun kh6=>aR<|aG fun kh7=>aB 2 rfl<|aD kh7<|aG fun kh8=>aB 3 rfl ?_
   have hk:k<l.length:=aA
   obtain ⟨bl,off,rfl,hS,hc⟩:=hr (eX fC eY aA hk)
   refine f_Q (aL h7 rfl rfl (off+k*2))<|f_Q (aO (vs:=fC l[k]) Tryz.isAgg215 Tryz.sizeOf215 rfl rfl (f8 eY hS hc hk)) ?_;refine f_S (jG [] _ Y rfl rfl Sub.refl (fun w_ Z=>(by have h:=U w_ (fun j hj=>Z.same j hj) l[k] (List.getElem_mem hk);exact h)) ?_);rintro _ _ ⟨rfl,rfl⟩;dsimp only [aK,aJ];refine aD kh8<|eO rfl (fun c16=>?_) (fun c16=>?_)
   ·refine aG fun X=>aB 2 rfl<|aD X<|aY<|fA<|cV<|cV<|fA<|cV ?_
    exact bJ [] Tryz.results179 rfl aP ⟨by rw [fidx_at hk (by simpa using c16) F],rfl⟩
   ·refine dY<|dF<|bO kh6<|aI<|f_Q (a8 rfl rfl)<|aB 1 rfl<|aZ ?_
    refine cS (a6 (k+1) (by first|omega|(dsimp only;omega)|(simp;omega)) ⟨aA,qU F (by simpa using c16)⟩ ?_ ?_ ?_)
    ·exact aF
    ·exact aF
    ·exact aC
  ·refine cN<|cO<|cO<|eC<|bO kh2<|aG fun kh10=>aB 1 rfl<|aD kh10<|aY ?_
   exact bJ [] Tryz.results179 rfl aP ⟨by rw [fidx_none (fun j h=>F j h aA)],rfl⟩
theorem DelP_spec (A:Option Addr) (l:List Pr) (cap:Nat) (m:Seg) (fi:FuncId) (aa:List Value) (p:Pr→Bool) (w:World) (ho:Own 215 2 (.slice A l.length cap) l.length (l.flatMap fC) m) (hl:l.length≤100000000)
    (ag:∀ args w,(callFunc fi args).run Tryz.prog w= .ok (.enter fi args) w)
    (ac:∀ w',(∀ k,Fr w [m] k→w'.heap[k]? =w.heap[k]?)→∀ x∈l,Meets Tryz.prog fi ([.agg (fC x).toArray]++aa) w' [] (fun u m=>u= .bool (p x)∧m=[])) (hw:Owns w [m]):
    Meets Tryz.prog 164 [.slice A l.length l.length,.func (.func fi) #[] aa.toArray] w [m] (fun u own' =>∃ (m' :Seg) (A' :Option Addr) (c1 c2:Nat),u= .slice A' (l.filter fun x=> !p x).length c1∧own' =[m']∧(l.filter fun x=> !p x).length≤c1∧c1≤9223372036854775807∧Own 215 2 (.slice A' (l.filter fun x=> !p x).length c2) (l.filter fun x=> !p x).length ((l.filter fun x=> !p x).flatMap fC) m'):=by
 refine bE Tryz.func164 rfl Tryz.ntmps164 rfl hw<|aG fun kh1=>aB 1 rfl<|aD kh1<|aG fun kh2=>aB 2 rfl ?_
 refine f_S (aV Tryz.call179 rfl (fun w_ Y=>DelP_spec_ix A l l.length fi aa p w_ (eS (ho.seen Y)) aA ag (fun w' hs x hx=>ac w' (fun j hj=>by
   have hne:¬ (Fr w_ [] j)→False:=fun h=>h ⟨Nat.lt_of_lt_of_le (Y.lt j hj) Y.size,aN⟩
   rw [hs j (Classical.byContradiction hne)];exact Y.same j hj) x hx)) ?_)
 rintro _ _ ⟨rfl,rfl⟩;dsimp only [aK,aJ];refine aB 1 rfl<|aD kh2<|aS fun kh3=>aG fun kh4=>aB 2 rfl<|aD kh4<|aX rfl (fun c12=>?_) (fun c12=>?_)
 ·
  have al:∀ x∈l,p x=false:=by
    rcases fidx_cases p l with ⟨_,h⟩|⟨k,hk,h,_⟩
    · exact h
    · omega
  have U:(l.filter fun x=> !p x)=l:=List.filter_eq_self.2 fun x hx=>by rw [al x hx];rfl
  refine aG fun an=>aB 2 rfl<|aD an<|aY<|cV ?_
  exact bJ [m] Tryz.results164 rfl (aM aP) ⟨m,A,l.length,cap,by rw [U],rfl,by rw [U];omega,aA,by rw [U];exact ho⟩
 ·
  obtain ⟨k,hk,am,ak,ae⟩:=(fidx_cases p l).resolve_left (fun h=>c12 h.1)
  rw [am];have aq:=del_start hk ak ae
  refine bV kh3<|aS fun kh6=>aG fun ao=>aB 1 rfl<|f_Q (a8 rfl rfl)<|aB 1 rfl<|aD ao<|aR ?_
  refine dA (α:=Nat×Nat×List (Pr)×Seg) [0,1] (fun ⟨i,j,d,m1⟩=>[(5,.int .i64 (i:Int)),(6,.int .i64 (j:Int))]) (fun ⟨i,j,d,m1⟩=>[m1]) (fun ⟨i,j,d,m1⟩=>i<j∧j≤l.length∧d.length=l.length∧d.take i=(l.take j).filter (fun x=> !p x)∧d.drop j=l.drop j∧Own 215 2 (.slice A l.length cap) l.length (d.flatMap fC) m1) (fun ⟨i,j,d,m1⟩=>l.length - j) (k,k+1,l,m) ?_ ?_ ?_ ?_
  · exact aF
  · exact aC
  · exact ⟨aA,aA,rfl,aq,rfl,ho⟩
  ·
   rintro ⟨i,j,d,m1⟩ ⟨ai,aw,O,F,ab,J⟩;obtain ⟨_,_,e_,au⟩:=J.val
   cases e_
   refine aS fun ar=>aG fun kh9=>aB 2 rfl<|dU h7 rfl<|aB 1 rfl<|aD kh9<|aX rfl (fun c19=>?_) (fun c19=>?_)
   ·
    refine bV ar<|aS fun kh10=>aR<|aS fun kh11=>?_
    have X:j<l.length:=aA
    obtain ⟨b,sp,rfl,rfl,ah⟩:=J.upd aA
    refine aI<|aB 2 rfl<|f_Q (aL h7 rfl rfl (j*2))<|f_Q (aO (vs:=fC l[j]) Tryz.isAgg215 Tryz.sizeOf215 rfl rfl (by rw [← del_at X O ab];exact jL eY aA)) ?_
    refine f_S (cQ Tryz.zeroValue215 rfl fun b7=>?_);refine f_Z (bP Tryz.sizeOf215 rfl rfl rfl rfl cF (fC l[j]) rfl ?_);refine aD kh11<|aG fun kh12=>aB 1 rfl<|f_Q (aO (vs:=[_,_]) Tryz.isAgg215 Tryz.sizeOf215 rfl rfl ⟨(rdA rfl),(rdA rfl),trivial⟩) ?_
    refine f_S (jG [] _ ag rfl rfl Sub.refl (fun w_ Y=>(by have h:=ac w_ (fun j hj=>Y.same j hj) l[j] (List.getElem_mem X);exact h)) ?_);rintro _ _ ⟨rfl,rfl⟩;dsimp only [aK,aJ];refine aB 1 rfl<|aD kh12<|eO rfl (fun c29=>?_) (fun c29=>?_)
    ·
     have Z:p l[j]=false:=by simpa using c29
     refine aG fun ad=>aB 2 rfl<|f_Q (aO (vs:=[_,_]) Tryz.isAgg215 Tryz.sizeOf215 rfl rfl ⟨(rdA rfl),(rdA rfl),trivial⟩)<|f_Q (aL h7 rfl rfl (i*2))<|f_Z (bP Tryz.sizeOf215 rfl rfl rfl rfl (by show i*2+2≤_;rw [List.length_append,dO fC eY];omega) ((d.set i l[j]).flatMap fC++sp) (jU eY sp _ _ _ aA) ?_)
     refine aD ad<|aI<|aB 1 rfl<|f_Q (a8 rfl rfl)<|aB 1 rfl<|aZ<|dF<|bO kh10<|aI<|aB 1 rfl ?_
     refine f_Q (a8 rfl rfl)<|aB 1 rfl<|aZ ?_
     refine cS (a6 (i+1,j+1,d.set i l[j],[(b,blk ((d.set i l[j]).flatMap fC++sp) 215)]) (by first|omega|(dsimp only;omega)|(simp;omega)) ⟨aA,aA,by simpa using O,(del_keep X ai O F ab Z).1,(del_keep X ai O F ab Z).2,ah _ (by rw [dO fC eY,dO fC eY,List.length_set])⟩ ?_ ?_ ?_)
     · exact aF
     · exact aF
     · exact aC
    ·
     have Z:p l[j]=true:=by simpa using c29
     refine dY<|dF<|bO kh10<|aI<|aB 1 rfl<|f_Q (a8 rfl rfl)<|aB 1 rfl<|aZ ?_
     refine cS (a6 (i,j+1,d,[(b,blk (d.flatMap fC++sp) 215)]) (by first|omega|(dsimp only;omega)|(simp;omega)) ⟨aA,aA,O,(del_skip X F ab Z).1,(del_skip X F ab Z).2,J⟩ ?_ ?_ ?_)
     · exact aF
     · exact aF
     · exact aC
   ·
    refine cN<|cO<|cO<|eC<|bO kh6<|aS fun kh14=>?_
    obtain ⟨b,sp,rfl,rfl,ah⟩:=J.upd aA
    have av:=J.1
    have aj:sp.length=(cap - l.length)*2:=by
      obtain ⟨_,h|⟨b',c',ap,e,hm,_,_,h3⟩⟩:=J
      · omega
      · cases e
        have:=List.append_cancel_left (Array.toList_inj.2 (show (d.flatMap fC++sp).toArray=(d.flatMap fC++ap).toArray by simpa using hm))
        rw [this];exact h3
    obtain rfl:j=l.length:=aA
    rw [List.take_length] at F;refine aI<|aB 2 rfl<|f_Q (f7 h7 rfl rfl rfl rfl (fun h=>by cases h) i _ _ (.inr ⟨_,_,rfl,aA⟩) (.inl ⟨rfl,rfl⟩) (.inl ⟨rfl,rfl⟩) ⟨aA,aA,aA⟩ (.slice (some ⟨b,i*2,none⟩) (l.length - i) (l.length - i)) (by rw [if_neg aA];simp [dG])) ?_
    refine f_Z (o_clear el154 rfl rfl (by rw [List.length_append,dO fC eY];omega) ((d.take i).flatMap fC++((List.replicate (l.length - i) [.int .i64 0,.int .i64 0]).flatten++sp)) (del_zero eY aA sp _ (by rw [O];simp)) ?_);refine aD kh14<|aG fun kh15=>aB 2 rfl<|f_Q (f7 h7 rfl rfl rfl rfl (fun h=>by cases h) 0 i l.length (.inl ⟨rfl,rfl⟩) (.inr ⟨_,_,rfl,aA⟩) (.inl ⟨rfl,rfl⟩) ⟨aA,aA,aA⟩ (.slice (some ⟨b,0,none⟩) i l.length) (by rw [if_neg aA];simp [dG])) ?_
    refine aB 1 rfl<|aD kh15<|aY ?_
    have U:(l.filter fun x=> !p x).length=i:=by rw [← F];simp;omega
    exact bJ [[(b,blk ((d.take i).flatMap fC++((List.replicate (l.length - i) [.int .i64 0,.int .i64 0]).flatten++sp)) 215)]] Tryz.results164 rfl (by repeat (first|exact aP|refine aM ?_)) ⟨_,some ⟨b,0,none⟩,l.length,cap,by rw [U],rfl,aA,aA,by rw [U,← F];exact ⟨by rw [dO fC eY,List.length_take,Nat.min_eq_left aA],.inr ⟨b,cap,_,rfl,rfl,aA,aA,by rw [List.length_append,aj];simp;omega⟩⟩⟩
theorem CutN1_spec (p:Pr) (aa ac bs bo ns n cn:Nat) (sd:List Bool) (L:List Int) (w:World) (ag:Ro (Fr w []) w (some ⟨aa,0,none⟩) [.slice (some ⟨bs,0,none⟩) ns ns]) (ah:Ro (Fr w []) w (some ⟨ac,0,none⟩) [.slice (some ⟨bo,0,none⟩) n cn]) (hs:Ro (Fr w []) w (some ⟨bs,0,none⟩) (sd.map .bool)) (hn:Ro (Fr w []) w (some ⟨bo,0,none⟩) (bF L)) (al:sd.length=ns) (ak:L.length=n) (h1:0≤p.1∧p.1<(n:Int)) (h2:0≤p.2∧p.2<(n:Int)) (hr:∀ x∈L,0≤x∧x<(ns:Int)):
    Meets Tryz.prog 165 ([.agg (fC p).toArray]++[.pointer (some ⟨aa,0,none⟩),.pointer (some ⟨ac,0,none⟩)]) w [] (fun u m=>u= .bool (cutB L sd p)∧m=[]):=by
 obtain ⟨_,_,e1,F,J⟩:=ag aN
 cases e1
 obtain ⟨_,_,e2,U,O⟩:=ah aN
 cases e2
 have Y:p.1.toNat<L.length:=aA
 have X:p.2.toNat<L.length:=aA
 have ai:=hr _ (List.getElem_mem Y)
 have aj:=hr _ (List.getElem_mem X)
 obtain ⟨_,_,e3,ae,ab⟩:=hn (fun e=>by have:=a7 L;rw [e] at this;simp at this;omega)
 cases e3
 obtain ⟨_,_,e4,Z,ad⟩:=hs (fX (k:=0) aA)
 cases e4
 obtain ⟨a,ha⟩:∃ a:Nat,L[p.1.toNat]=(a:Int):=⟨_,(Int.toNat_of_nonneg ai.1).symm⟩
 obtain ⟨b,hb⟩:∃ b:Nat,L[p.2.toNat]=(b:Int):=⟨_,(Int.toNat_of_nonneg aj.1).symm⟩
 refine bE Tryz.func165 rfl Tryz.ntmps165 rfl Owns.nil<|aG fun kh1=>f_S (cT rfl rfl fun b3=>?_)
 refine aB 1 rfl<|aD kh1<|aS fun kh2=>gG 17 rfl aW<|dB (aH Tryz.isAgg37 rfl (rdS F (J 0 _ rfl)))<|dB (aH Tryz.isAgg25 rfl (rdS U (O 0 _ rfl)))<|dB (aT lS rfl)<|gC Tryz.isAgg3 rfl (rdA rfl)<|dB (aL bX rfl rfl (0+p.1.toNat))<|dB (aH Tryz.isAgg3 rfl (show Rd _ _ _ _ _ (.int .i64 (a:Int)) by rw [← ha];exact d3 (enc:=(.int .i64 ·)) ae ab Y)) ?_
 refine dB (aL o9 rfl rfl (0+a))<|dB (aH Tryz.isAgg4 rfl (d3 (enc:=Value.bool) Z ad (k:=a) aA))<|dB (aH Tryz.isAgg37 rfl (rdS F (J 0 _ rfl)))<|dB (aH Tryz.isAgg25 rfl (rdS U (O 0 _ rfl)))<|dB (aT oF rfl)<|gC Tryz.isAgg3 rfl (rdA rfl)<|dB (aL bX rfl rfl (0+p.2.toNat))<|dB (aH Tryz.isAgg3 rfl (show Rd _ _ _ _ _ (.int .i64 (b:Int)) by rw [← hb];exact d3 (enc:=(.int .i64 ·)) ae ab X)) ?_;refine dB (aL o9 rfl rfl (0+b))<|dB (aH Tryz.isAgg4 rfl (d3 (enc:=Value.bool) Z ad (k:=b) aA))<|dB (o_eqlB Tryz.underlying4 rfl rfl)<|eI (iX ?_)
 refine aB 1 rfl<|aD kh2<|aY ?_
 have e : cutB L sd p = decide (sd[a]'aA = sd[b]'aA) := by unfold cutB; rw [nd_at Y, nd_at X, ha, hb, Int.toNat_natCast, Int.toNat_natCast, List.getD_eq_getElem?_getD, List.getD_eq_getElem?_getD, List.getElem?_eq_getElem aA, List.getElem?_eq_getElem aA]; rfl
 exact bJ [] Tryz.results165 rfl aP ⟨by rw [e],rfl⟩
theorem CutN_spec (N:Int) (A:Option Addr) (l:List Arc) (cap:Nat) (c most:Int) (w:World) (hr:Ro (Fr w []) w A (l.flatMap bZ)) (hl:l.length≤9223372036854775807) (hN:I64 N) (hok:∀ x∈l,eK x):
    Meets Tryz.prog 130 [.agg #[.int .i64 N,.slice A l.length cap],.int .i64 c,.int .i64 most] w [] (fun u own' =>∃ (C:List Pr) (A' :Option Addr) (c2:Nat) (m' :Seg),u= .tuple #[.slice A' C.length C.length,.int .i64 (ncE N l c most)]∧own' =[m']∧Own 215 2 (.slice A' C.length c2) C.length (C.flatMap fC) m'∧(ncE N l c most≠0→C=[])∧(ncE N l c most=0→NcΦ N.toNat l c most C)):=by
 have bY:=regR_len (N:=N) (l:=l) (c:=c) (most:=most)
 refine bE Tryz.func130 rfl Tryz.ntmps130 rfl Owns.nil<|aG fun kh1=>f_S (cT rfl rfl fun b3=>?_)
 refine aB 2 rfl<|aD kh1<|aG fun kh2=>f_Q (aO (vs:=[_,_]) Tryz.isAgg24 Tryz.sizeOf24 rfl rfl ⟨(rdA rfl),(rdA rfl),trivial⟩)<|aB 2 rfl ?_
 refine f_S (aV Tryz.call161 rfl (fun w_ hp_=>Region_spec N A l cap c most w_ (hr.up0 hp_) hl hN hok) ?_);rintro _ _ ⟨sR,mR,rfl,rfl,ay⟩;obtain ⟨AR,cR,rfl,b4⟩:=ay.val
 dsimp only [aK,aJ];refine aB 5 rfl<|aD kh2<|aS fun kh3=>aG fun kh4=>aB 2 rfl<|aD kh4<|aX rfl (fun c31=>?_) (fun c31=>?_)
 ·refine aG fun bi=>aB 3 rfl<|aD bi<|aY<|cV ?_
  have Y:(eV N l c most).2≠0:=by simpa using c31
  have he:ncE N l c most=(eV N l c most).2:=by unfold ncE;rw [if_pos Y]
  exact cZ [[]] Tryz.results130 rfl rfl (show Fly.Sub _ [[]] from aC) ⟨[],none,0,[],by rw [he];rfl,rfl,Own.nil _ _,fun _=>rfl,fun h=>absurd (he.symm.trans h) Y⟩
 ·have F:(eV N l c most).2=0:=by simpa using c31
  have hg:=regR_rng F
  obtain ⟨b8,b6,cd,bW⟩:=bS hg
  obtain ⟨n,rfl⟩:∃ n:Nat,N=(n:Int):=⟨N.toNat,aA⟩
  have be:=reg_rngN F
  have bh:(iZ (n:Int) l c most).1.length≤(eV (n:Int) l c most).1.length:=by unfold iZ;simp only [List.length_take];omega
  refine bV kh3<|aS fun kh6=>aG fun kh7=>aB 1 rfl<|dU bX rfl<|cL eT rfl<|cX Tryz.isAgg3 rfl (rdA rfl)<|aB 1 rfl<|aD kh7<|aX rfl (fun c37=>?_) (fun c37=>?_)
  ·refine aG fun bg=>aB 2 rfl<|aD bg<|aY<|cV ?_
   have he:ncE (n:Int) l c most=0:=by unfold ncE;rw [if_neg (by rw [F];simp),if_pos aA]
   exact cZ [[]] Tryz.results130 rfl rfl (show Fly.Sub _ [[]] from aC) ⟨[],none,0,[],by rw [he];rfl,rfl,Own.nil _ _,fun _=>rfl,fun _=>by rw [Int.toNat_natCast];exact ⟨fun _=>rfl,fun h=>absurd aA h⟩⟩
  ·have br:¬ (eV (n:Int) l c most).1.length=n:=aA
   refine bV kh6<|aG fun kh9=>f_Q (aO (vs:=[_,_]) Tryz.isAgg24 Tryz.sizeOf24 rfl rfl ⟨(rdA rfl),(rdA rfl),trivial⟩)<|aB 2 rfl ?_
   refine f_S (aV Tryz.call162 rfl (fun w_ hp_=>Core_spec (n:Int) A l cap c most w_ (hr.up0 hp_) hl hN hok) ?_);rintro _ _ ⟨sC,mC,rfl,rfl,bw⟩;obtain ⟨AC,cC,rfl,b2⟩:=bw.val
   have bf:(iZ (n:Int) l c most).2=0:=F
   rw [bf];dsimp only [aK,aJ];refine aB 5 rfl<|aD kh9<|aS fun kh10=>aG fun kh11=>aB 2 rfl<|aD kh11<|dX rfl aN<|bV kh10<|aG fun kh12=>f_S (bQ eL aA rfl rfl rfl fun an=>?_)
   refine cL eT rfl<|cX Tryz.isAgg3 rfl (rdA rfl) ?_
   refine f_S (aV Tryz.call63 rfl (fun w_ hp_=>j1 an 0 1 n 1 w_ (fP (b:=an) hp_ (cs:=[.int .i64 1]) (fun j v hj=>hj)) aA) ?_);rintro _ _ ⟨bN,rfl,rfl⟩;dsimp only [aK,aJ];refine f_S (cQ Tryz.zeroValue25 rfl fun X=>?_);refine f_Z (bU Tryz.sizeOf25 rfl rfl rfl rfl cF [.slice (some ⟨bN,0,none⟩) n n] rfl ?_);refine aD kh12<|aS fun kh13=>aS fun am=>k6 bN (bF (qL (eV (n:Int) l c most).1 (iZ (n:Int) l c most).1.length n 0)) (by simp [bF,qL]) ?_
   refine aI<|aB 1 rfl<|dU bX rfl<|aB 1 rfl<|aD am<|aR ?_
   refine dA (α:=Nat) [3,8,10,11,52,53] (fun k=>[(54,.int .i64 (k:Int))]) (fun k=>[[(bN,blk (bF (qL (eV (n:Int) l c most).1 (iZ (n:Int) l c most).1.length n k)) 3)],[(X,blk [.slice (some ⟨bN,0,none⟩) n n] 25)],mR,[(b3,blk [.int .i64 (n:Int),.slice A l.length cap] 24)]]) (fun k=>k≤(eV (n:Int) l c most).1.length) (fun k=>(eV (n:Int) l c most).1.length - k) (0) ?_ ?_ ?_ ?_
   ·exact aF
   ·exact aC
   ·exact Nat.zero_le _
   ·rintro k ba;refine aG fun kh15=>aB 1 rfl<|aD kh15<|aS fun kh16=>aX rfl (fun bu=>?_) (fun bu=>?_)
    ·have hk:k<(eV (n:Int) l c most).1.length:=aA
     obtain ⟨bR,b5,rfl,rfl⟩:=ay.at_ aA
     have ak:=be _ (List.getElem_mem hk)
     obtain ⟨v,hv⟩:∃ v:Nat,(eV (n:Int) l c most).1[k]=(v:Int):=⟨_,(Int.toNat_of_nonneg ak.1).symm⟩
     rw [hv] at ak;have ad:((eV (n:Int) l c most).1.getD k 0).toNat=v:=by rw [List.getD_eq_getElem?_getD,List.getElem?_eq_getElem hk,Option.getD_some,hv,Int.toNat_natCast]
     refine bV kh16<|aS fun kh17=>aR<|aG fun kh18=>aB 1 rfl<|f_Q (aL bX rfl rfl (k))<|f_Q (aH Tryz.isAgg3 rfl (rdA (v:= .int .i64 (v:Int)) (eF (by rw [eG hk,hv])))) ?_
     refine aB 2 rfl<|aD kh18<|aG fun kh19=>aB 2 rfl<|dU bX rfl<|aB 1 rfl<|aD kh19<|aX rfl (fun c62=>?_) (fun c62=>?_)
     ·have J:(qL (eV (n:Int) l c most).1 (iZ (n:Int) l c most).1.length n k).set v 0=(qL (eV (n:Int) l c most).1 (iZ (n:Int) l c most).1.length n (k+1)):=by rw [ndTo_succ,ad,if_pos aA]
      refine aI<|cX Tryz.isAgg25 rfl (rdA rfl)<|aB 1 rfl<|f_Q (aL bX rfl rfl (v))<|f_Z (bU Tryz.sizeOf3 rfl rfl rfl rfl (by rw [a7,ndTo_len];omega) (bF (qL (eV (n:Int) l c most).1 (iZ (n:Int) l c most).1.length n (k+1))) (by rw [← J];simp [bF]) ?_)
      refine aZ<|dF<|bO kh17<|aI<|f_Q (a8 rfl rfl)<|aB 1 rfl<|aZ ?_
      refine cS (a6 (k+1) (by first|omega|(dsimp only;omega)|(simp;omega)) aA ?_ ?_ ?_)
      ·exact aF
      ·exact aF
      ·exact aC
     ·have J:(qL (eV (n:Int) l c most).1 (iZ (n:Int) l c most).1.length n k).set v (2+(k:Int) - ((iZ (n:Int) l c most).1.length:Int))=(qL (eV (n:Int) l c most).1 (iZ (n:Int) l c most).1.length n (k+1)):=by rw [ndTo_succ,ad,if_neg aA]
      refine aI<|cX Tryz.isAgg25 rfl (rdA rfl)<|aB 2 rfl<|f_Q (a8 rfl rfl)<|aB 1 rfl<|dU bX rfl<|f_Q (jC rfl rfl)<|f_Q (aL bX rfl rfl (v))<|f_Z (bU Tryz.sizeOf3 rfl rfl rfl rfl (by rw [a7,ndTo_len];omega) (bF (qL (eV (n:Int) l c most).1 (iZ (n:Int) l c most).1.length n (k+1))) (by rw [← J];simp [bF]) ?_)
      refine aZ<|dF<|bO kh17<|aI<|f_Q (a8 rfl rfl)<|aB 1 rfl<|aZ ?_
      refine cS (a6 (k+1) (by first|omega|(dsimp only;omega)|(simp;omega)) aA ?_ ?_ ?_)
      ·exact aF
      ·exact aF
      ·exact aC
    ·refine cN<|cO<|cO<|eC<|bO kh13<|aS fun kh20=>?_
     obtain rfl:k=(eV (n:Int) l c most).1.length:=aA
     rw [show (qL (eV (n:Int) l c most).1 (iZ (n:Int) l c most).1.length n (eV (n:Int) l c most).1.length)=(fQ n l c most) from rfl];have a1:(fQ n l c most).length=n:=ndTo_len _ _ _ _
     have ab:=ndTo_rng (eV (n:Int) l c most).1 (iZ (n:Int) l c most).1.length n (eV (n:Int) l c most).1.length bh (eV (n:Int) l c most).1.length (Nat.le_refl _)
     have aj:=I64_nd (L:=(fQ n l c most)) (m:=j6 n l c most) (by unfold j6;omega) ab
     have b9:j6 n l c most=2+((eV (n:Int) l c most).1.length:Int) - ((iZ (n:Int) l c most).1.length:Int):=rfl
     refine aI<|aB 1 rfl<|dU bX rfl<|f_Q (a8 rfl rfl)<|aB 1 rfl<|dU bX rfl<|f_Q (kM rfl rfl _ (Eq.trans (d7 aA) (show _=j6 n l c most from rfl)))<|f_Q (dL (cs:=[.int .i64 (j6 n l c most),.slice none 0 0]) st265 rfl rfl)<|f_S (cQ Tryz.zeroValue265 rfl fun b14=>?_)
     refine f_Z (bP Tryz.sizeOf265 rfl rfl rfl rfl cF [.int .i64 (j6 n l c most),.slice none 0 0] rfl ?_);refine aD kh20<|aG fun kh21=>f_Q (aO (vs:=[_,_]) Tryz.isAgg24 Tryz.sizeOf24 rfl rfl ⟨(rdA rfl),(rdA rfl),trivial⟩) ?_
     refine f_S (aV Tryz.call142 rfl (fun w_ hp_=>pairs_spec n A l cap w_ (hr.up0 hp_) hg) ?_);rintro _ _ ⟨Ap,mp,rfl,rfl,cp,aq⟩;have bK:=prs_len (n:=n) aA l
     dsimp only [aK,aJ];refine aB 1 rfl<|aD kh21<|aS fun kh22=>aG fun aw=>aB 1 rfl<|dU h7 rfl<|aB 1 rfl<|aD aw<|aR ?_
     refine dA (α:=Nat×Value×Seg) [11,14,15,84,85] (fun ⟨k,O,em⟩=>[(86,.int .i64 (k:Int))]) (fun ⟨k,O,em⟩=>[[(bN,blk (bF (fQ n l c most)) 3)],[(X,blk [.slice (some ⟨bN,0,none⟩) n n] 25)],[(b14,blk [.int .i64 (j6 n l c most),O] 265)],em,mp]) (fun ⟨k,O,em⟩=>k≤(prs n l).length∧Own 267 3 O (oT ((prs n l).take k) (fQ n l c most)).length ((oT ((prs n l).take k) (fQ n l c most)).flatMap bZ) em) (fun ⟨k,O,em⟩=>(prs n l).length - k) (0,.slice none 0 0,[]) ?_ ?_ ?_ ?_
     ·exact aF
     ·exact aC
     ·exact ⟨Nat.zero_le _,Own.nil _ _⟩
     ·rintro ⟨k,O,em⟩ ⟨ba,hE⟩;have ai:=cutE_len (fQ n l c most) ((prs n l).take k)
      rw [List.length_take] at ai;obtain ⟨bq,bc,rfl,bC⟩:=hE.val
      refine fF (e:=[(86,_),(11,_),(14,_),(15,_),(84,_),(85,_)]) aF ?_;refine aG fun kh24=>aB 1 rfl<|aD kh24<|aS fun kh25=>aX rfl (fun bk=>?_) (fun bk=>?_)
      ·have hk:k<(prs n l).length:=aA
       obtain ⟨bp,bM,rfl,rfl⟩:=aq.at_ aA
       have bL:=i6 (List.getElem_mem hk)
       have av:(prs n l)[k].1.toNat<(fQ n l c most).length:=aA
       have ap:(prs n l)[k].2.toNat<(fQ n l c most).length:=aA
       have J:=cutE_next (L:=(fQ n l c most)) hk
       refine bV kh25<|aS fun kh26=>aR<|aG fun kh27=>f_Q (aL h7 rfl rfl (k*2))<|f_Q (aO (vs:=fC (prs n l)[k]) Tryz.isAgg215 Tryz.sizeOf215 rfl rfl (jL eY hk))<|f_S (cQ Tryz.zeroValue215 rfl fun b17=>?_)
       refine f_Z (bP Tryz.sizeOf215 rfl rfl rfl rfl cF (fC (prs n l)[k]) rfl ?_);refine aD kh27<|aS fun kh28=>c7 [[(b17,blk [.int .i64 (prs n l)[k].1,.int .i64 (prs n l)[k].2] 215)],[(bN,blk (bF (fQ n l c most)) 3)],[(X,blk [.slice (some ⟨bN,0,none⟩) n n] 25)]] rfl<|f_T 0 rfl (aH Tryz.isAgg25 rfl (rdA rfl))<|f_T 1 rfl (aT lS rfl)<|f_T 2 rfl (aH Tryz.isAgg3 rfl (rdA rfl))<|f_T 3 rfl (aL bX rfl rfl ((prs n l)[k].1.toNat))<|f_T 4 rfl (aH Tryz.isAgg3 rfl (rdA (v:= .int .i64 (nd (fQ n l c most) (prs n l)[k].1)) (by rw [nd_at av];exact eG av))) ?_
       refine f_T 5 rfl (aH Tryz.isAgg25 rfl (rdA rfl))<|f_T 6 rfl (aT oF rfl)<|f_T 7 rfl (aH Tryz.isAgg3 rfl (rdA rfl))<|f_T 8 rfl (aL bX rfl rfl ((prs n l)[k].2.toNat))<|f_T 9 rfl (aH Tryz.isAgg3 rfl (rdA (v:= .int .i64 (nd (fQ n l c most) (prs n l)[k].2)) (by rw [nd_at ap];exact eG ap))) ?_
       refine f_T 10 rfl (bI rfl)<|f_T 11 rfl (bI rfl)<|cU aW<|bO kh28<|aG fun kh29=>aB 3 rfl<|aD kh29<|aX rfl (fun c102=>?_) (fun c102=>?_)
       ·rw [if_pos aA] at J;refine aI<|cL fa265_1 rfl<|cX Tryz.isAgg263 rfl (rdA rfl)<|aB 2 rfl<|f_Q (dL (cs:=bZ ⟨nd (fQ n l c most) (prs n l)[k].1,nd (fQ n l c most) (prs n l)[k].2,1⟩) st267 rfl rfl)<|aB 2 rfl<|f_Q (dL (cs:=bZ ⟨nd (fQ n l c most) (prs n l)[k].2,nd (fQ n l c most) (prs n l)[k].1,1⟩) st267 rfl rfl)<|f_S (o_sliceN (len:=2) el263 aA rfl (show _=some (bZ ⟨nd (fQ n l c most) (prs n l)[k].1,nd (fQ n l c most) (prs n l)[k].2,1⟩++bZ ⟨nd (fQ n l c most) (prs n l)[k].2,nd (fQ n l c most) (prs n l)[k].1,1⟩).toArray from rfl) fun bD=>?_)
        refine f_S (dE el263 rfl rfl hE (ys:=bZ ⟨nd (fQ n l c most) (prs n l)[k].1,nd (fQ n l c most) (prs n l)[k].2,1⟩++bZ ⟨nd (fQ n l c most) (prs n l)[k].2,nd (fQ n l c most) (prs n l)[k].1,1⟩) ⟨(rdA rfl),(rdA rfl),(rdA rfl),(rdA rfl),(rdA rfl),(rdA rfl),trivial⟩ rfl rfl aA aA fun bB al ac=>?_);obtain ⟨ao,ax,rfl,_⟩:=ac.val
        refine cL fa265_1 rfl<|f_Z (bU Tryz.sizeOf263 rfl rfl rfl rfl cF [.int .i64 (j6 n l c most),.slice ao ((oT ((prs n l).take k) (fQ n l c most)).length+2) ax] rfl ?_)
        refine aZ<|dF<|bO kh26<|aI<|f_Q (a8 rfl rfl)<|aB 1 rfl<|aZ ?_
        refine cS (a6 (k+1,_,al) (by first|omega|(dsimp only;omega)|(simp;omega)) ⟨aA,by rw [J,List.flatMap_append,List.length_append];simpa using ac⟩ ?_ ?_ ?_)
        ·exact aF
        ·exact aF
        ·exact aC
       ·rw [if_neg aA,List.append_nil] at J;refine dY<|dF<|bO kh26<|aI<|f_Q (a8 rfl rfl)<|aB 1 rfl<|aZ ?_
        refine cS (a6 (k+1,_,em) (by first|omega|(dsimp only;omega)|(simp;omega)) ⟨aA,by rw [J];exact hE⟩ ?_ ?_ ?_)
        ·exact aF
        ·exact aF
        ·exact aC
      ·obtain rfl:k=(prs n l).length:=aA
       rw [List.take_length] at hE ai ⊢;refine cN<|cO<|cO<|eC<|bO kh22<|aG fun kh30=>f_Q (aO (vs:=[_,_]) Tryz.isAgg265 Tryz.sizeOf265 rfl rfl ⟨(rdA rfl),(rdA rfl),trivial⟩) ?_
       refine f_S (aV Tryz.call163 rfl (fun w_ hp_=>Cut_spec2 (j6 n l c most) bq (oT (prs n l) (fQ n l c most)) bc 0 1 w_ (eS (hE.seen hp_)) aA ⟨aA,aA⟩ (cutE_ok aj)) ?_);rintro _ _ ⟨V,bt,b7,sd,Aw,cw,mw,W,rfl,rfl,a2,hW,hne,hz⟩
       obtain ⟨Av,nv,ag,rfl⟩:∃ Av nv ag,bt=Value.slice Av nv ag:=by
        rcases a2 with ⟨_,h,_⟩|⟨_,h,_⟩<;>exact ⟨_,_,_,h⟩
       dsimp only [aK,aJ];refine aB 5 rfl<|f_S (cQ Tryz.zeroValue37 rfl fun b20=>?_)
       refine f_Z (bU Tryz.sizeOf37 rfl rfl rfl rfl cF [.slice Av nv ag] rfl ?_);refine aB 3 rfl<|aD kh30<|aS fun kh31=>aG fun kh32=>aB 2 rfl<|aD kh32<|aX rfl (fun c123=>?_) (fun c123=>?_)
       ·refine aG fun az=>aB 3 rfl<|aD az<|aY<|cV ?_
        have ah:gU (j6 n l c most) (oT (prs n l) (fQ n l c most)) 0 1≠0:=by simpa using c123
        have he:ncE (n:Int) l c most=gU (j6 n l c most) (oT (prs n l) (fQ n l c most)) 0 1:=by unfold ncE;rw [if_neg (by rw [F];simp),if_neg aA,Int.toNat_natCast]
        exact cZ [[]] Tryz.results130 rfl rfl (show Fly.Sub _ [[]] from aC) ⟨[],none,0,[],by rw [he];rfl,rfl,Own.nil _ _,fun _=>rfl,fun h=>absurd (he.symm.trans h) ah⟩
       ·have au:gU (j6 n l c most) (oT (prs n l) (fQ n l c most)) 0 1=0:=by simpa using c123
        obtain ⟨ae,b1,⟨f,hF,hS⟩,_⟩:=hz au
        obtain ⟨bs,bv,rfl⟩:=a2.resolve_left (fun h=>by have:=h.1;rw [this] at ae;simp at ae;omega)
        cases bv
        refine bV kh31<|aG fun kh34=>aB 1 rfl<|f_Q (kT rfl rfl) ?_
        refine f_S (d4 [mp] _ Tryz.call164 rfl (by repeat (first|exact Sub.refl|refine aM ?_)) (fun w_ hp_=>DelP_spec Ap (prs n l) cp mp 165 [.pointer (some ⟨b20,0,none⟩),.pointer (some ⟨X,0,none⟩)] (cutB (fQ n l c most) sd) w_ aq aA Tryz.call165 (fun w' hs x hx=>CutN1_spec x b20 X bs bN sd.length n n sd (fQ n l c most) w' (heldFrN hp_ hs) (heldFrN hp_ hs) (heldFrN hp_ hs) (heldFrN hp_ hs) rfl a1 (i6 hx).1 (i6 hx).2 (fun z hz=>by have:=ab z hz;omega)) hp_.owns) ?_);rintro _ _ ⟨aa,Z,c1,c2,rfl,rfl,bj,ar,U⟩;dsimp only [aK,aJ];refine f_S (aV Tryz.call133 rfl (fun w_ hp_=>ClipPr_spec Z _ c1 w_ bj ar (j5 U)) ?_);rintro _ _ ⟨rfl,rfl⟩;dsimp only [aK,aJ];refine aB 2 rfl<|aD kh34<|aY ?_
        have he:ncE (n:Int) l c most=0:=by unfold ncE;rw [if_neg (by rw [F];simp),if_neg aA,Int.toNat_natCast];exact au
        exact cZ [aa] Tryz.results130 rfl rfl aC ⟨_,Z,c2,aa,by rw [he],rfl,U,fun h=>absurd he h,fun _=>by rw [Int.toNat_natCast];exact ⟨fun h=>absurd h br,fun _=>⟨f,V,sd,ae,hF,hS,rfl⟩⟩⟩
def eW (n:Nat) (rows:Nat→List Int):Nat→BSt
 |0=>([],List.replicate n false)
 |v+1=>if (eW n rows v).2.getD v false=true then eW n rows v else ((eW n rows v).1++(bfs n rows v (eW n rows v).2).1,(bfs n rows v (eW n rows v).2).2)
def ordR (N:Int) (l:List Arc):List Int×Int:=if (cG N l).2≠0 then ([],(cG N l).2) else ((eW N.toNat (fun v:Nat=>dS (v:Int) l) N.toNat).1,0)
theorem bfs_inv {n:Nat} {rows:Nat→List Int} (hr:∀ v,v<n→∀ u∈rows v,0≤u∧u<(n:Int)) {c:Nat} {b:List Bool} (hb:b.length=n) (hc:c<n):BInv n (bfs n rows c b):=BInv.go hr (BInv.start hb hc) n
theorem ordGo_len {n:Nat} {rows:Nat→List Int} (hr:∀ v,v<n→∀ u∈rows v,0≤u∧u<(n:Int)):∀ v,v≤n→(eW n rows v).2.length=n∧(eW n rows v).1.length≤v*n
 |0,_=>⟨by show (List.replicate n false).length=n;simp,by show 0≤0*n;omega⟩
 |v+1,h=>by
  obtain ⟨h1,h2⟩:=ordGo_len hr v aA
  unfold eW
  split
  ·exact ⟨h1,Nat.le_trans h2 (Nat.mul_le_mul_right n (Nat.le_succ v))⟩
  ·have F:=bfs_inv hr h1 (show v<n by omega)
   refine ⟨F.len,?_⟩;have:=F.out
   rw [List.length_append,Nat.succ_mul];omega
theorem ordGo_small {n:Nat} {rows:Nat→List Int} (hr:∀ v,v<n→∀ u∈rows v,0≤u∧u<(n:Int)) (hn:n≤1024) {v:Nat} (hv:v≤n):(eW n rows v).2.length=n∧(eW n rows v).1.length≤1048576:=
 ⟨(ordGo_len hr v hv).1,Nat.le_trans (ordGo_len hr v hv).2 (Nat.le_trans (Nat.mul_le_mul (Nat.le_trans hv hn) hn) (by decide))⟩
theorem mayLen {F:BSt} {ys:List Int} {y:Int} (h:arMay F ys y):ys.length<F.1.length:=by
 obtain ⟨k,hk,rfl,_⟩:=h
 rw [List.length_take];omega
theorem Order_spec (N:Int) (A:Option Addr) (l:List Arc) (cap:Nat) (w:World) (hr:Ro (Fr w []) w A (l.flatMap bZ)) (hl:l.length≤9223372036854775807) (hN:I64 N) (hok:∀ x∈l,eK x):
    Meets Tryz.prog 137 [.agg #[.int .i64 N,.slice A l.length cap]] w [] (fun u own' =>∃ s ms,u= .tuple #[s,.int .i64 (ordR N l).2]∧own' =[ms]∧Own 3 1 s (ordR N l).1.length (bF (ordR N l).1) ms):=by
 refine r_enter Tryz.func137 rfl Tryz.ntmps137 rfl Owns.nil ?_;refine dW fun K1 ba=>?_;refine cA ?_;refine fR rfl rfl rfl (Does.toR rfl (cT rfl rfl fun b1=>?_));refine aQ rfl rfl rfl rfl (bI rfl) ?_;refine aQ rfl rfl rfl rfl (bI rfl) ?_;refine dM ?_;refine d9 (ba _ _ _ ?_);refine dW fun K2 bv=>?_;refine dW fun K3 br=>?_;refine cA ?_;refine aQ rfl rfl rfl rfl (aO (vs:=[_,_]) Tryz.isAgg24 Tryz.sizeOf24 rfl rfl ⟨(rdA rfl),(rdA rfl),trivial⟩) ?_;refine fR rfl rfl rfl (Does.toR rfl (aV Tryz.call20 rfl (fun w_ O=>f3 N A l cap w_ (hr.up0 O) hl hN hok) ?_));rintro _ _ ⟨rfl,rfl⟩;dsimp only [aK,aJ];refine aQ rfl rfl rfl rfl (aU rfl) ?_;refine aQ rfl rfl rfl rfl (eU rfl rfl) ?_;refine aQ rfl rfl rfl rfl (eU rfl rfl) ?_;refine aQ rfl rfl rfl rfl (bI rfl) ?_;refine aQ rfl rfl rfl rfl (bI rfl) ?_;refine dM ?_;refine d9 (br _ _ _ ?_);refine dW fun K4 bk=>?_;refine cA ?_;refine aQ rfl rfl rfl rfl (aU rfl) ?_;refine aQ rfl rfl rfl rfl (o_neq rfl rfl) ?_;refine dM ?_;refine d9 (bk _ _ _ ?_);refine kF rfl (fun ai=>?_) (fun ai=>?_)
 ·refine dW fun K5 bg=>?_;refine cA ?_;refine aQ rfl rfl rfl rfl (aU rfl) ?_;refine aQ rfl rfl rfl rfl (bI rfl) ?_;refine aQ rfl rfl rfl rfl (bI rfl) ?_;refine dM ?_;refine d9 (bg _ _ _ ?_);refine nF ?_;refine r_tr ?_;have e:ordR N l=([],(cG N l).2):=if_pos ai
  exact lE [[]] Tryz.results137 rfl rfl (show Fly.Sub _ [[],[]] from aC) ⟨_,_,by rw [e],rfl,by rw [e];exact Own.nil _ _⟩
 ·have hg:(cG N l).2=0:=by simpa using ai
  obtain ⟨b4,b3,a2,am⟩:=bS hg
  obtain ⟨n,rfl⟩:∃ n:Nat,N=(n:Int):=⟨N.toNat,aA⟩
  have aa:n≤1024:=aA
  obtain ⟨be,Y⟩:=pH hg
  have ab:ordR (n:Int) l=((eW n (fun v:Nat=>dS (v:Int) l) n).1,0):=by unfold ordR;rw [if_neg (by rw [hg];simp),Int.toNat_natCast]
  refine iT ?_;refine d9 (bv _ _ _ ?_);refine r_meet (α:=Nat×List Value×List Seg×Nat) [1,10,37] (fun ⟨bo,vs,ms,F⟩=>[(6,.slice (some ⟨bo,0,none⟩) n n),(7,.slice (some ⟨F,0,none⟩) n n)]) (fun ⟨bo,vs,ms,F⟩=>[[(bo,blk vs 25)],ms.flatten,[(F,blk (gA (List.replicate n false)) 4)],[(b1,blk [.int .i64 (n:Int),.slice A l.length cap] 24)]]) (fun ⟨bo,vs,ms,F⟩=>RowsI 3 (nrows n l) vs ms) ?_ ?_
  ·intro K6 ae;refine r_old ?_;refine c7 [[(b1,blk [.int .i64 (n:Int),.slice A l.length cap] 24)]] rfl<|f_T 0 rfl (aO (vs:=[_,_]) Tryz.isAgg24 Tryz.sizeOf24 rfl rfl ⟨(rdA rfl),(rdA rfl),trivial⟩)<|f_T 2 rfl (aT eT rfl)<|f_T 3 rfl (aH Tryz.isAgg3 rfl (rdA rfl))<|gH 1 4 rfl rfl aW rfl rfl rfl rfl rfl rfl ?_ ?_
   ·refine (aV Tryz.call168 rfl (fun w_ O=>qB n A l cap w_ (hr.up0 O) aa a2 am) ?_);rintro _ _ ⟨bo,vs,ms,rfl,rfl,hR⟩;dsimp only [aK,aJ];refine ⟨aC,?_⟩;refine gH 4 5 rfl rfl aW rfl rfl rfl rfl rfl rfl ?_ ?_
    ·refine (eZ el37 rfl rfl n rfl aA aA (gA (List.replicate n false)) (pB n false) fun F=>⟨aC,?_⟩);refine f_O 5 rfl ((bI rfl).does ⟨aC,?_⟩);refine f_O 6 rfl ((bI rfl).does ⟨aC,?_⟩);refine cU aW ?_;refine r_new ?_;refine d9 (ae _ _ (bo,vs,ms,F) hR ?_ ?_ ?_)
     ·exact aF
     ·exact aF
     ·exact aC
    ·refine (bI rfl).does ⟨aC,?_⟩;refine f_O 4 rfl (eZ el37 rfl rfl n rfl aA aA (gA (List.replicate n false)) (pB n false) fun F=>⟨aC,?_⟩);refine f_O 6 rfl ((bI rfl).does ⟨aC,?_⟩);refine cU aW ?_;refine r_new ?_;refine d9 (ae _ _ (bo,vs,ms,F) hR ?_ ?_ ?_)
     ·exact aF
     ·exact aF
     ·exact aC
   ·refine (eZ el37 rfl rfl n rfl aA aA (gA (List.replicate n false)) (pB n false) fun F=>⟨aC,?_⟩);refine f_O 1 rfl (aV Tryz.call168 rfl (fun w_ O=>qB n A l cap w_ (hr.up0 O) aa a2 am) ?_);rintro _ _ ⟨bo,vs,ms,rfl,rfl,hR⟩;dsimp only [aK,aJ];refine ⟨aC,?_⟩;refine f_O 5 rfl ((bI rfl).does ⟨aC,?_⟩);refine f_O 6 rfl ((bI rfl).does ⟨aC,?_⟩);refine cU aW ?_;refine r_new ?_;refine d9 (ae _ _ (bo,vs,ms,F) hR ?_ ?_ ?_)
    ·exact aF
    ·exact aF
    ·exact aC
  ·rintro ⟨bo,vs,ms,F⟩ hR;refine dW fun K7 bi=>?_;refine cA ?_;refine fR rfl rfl rfl (Does.toR rfl (cQ Tryz.zeroValue25 rfl fun b8=>?_));refine dM ?_;refine d9 (bi _ _ _ ?_);refine dW fun K8 bf=>?_;refine dW fun K9 bp=>?_;refine cA ?_;refine aQ rfl rfl rfl rfl (aT eT rfl) ?_;refine aQ rfl rfl rfl rfl (aH Tryz.isAgg3 rfl (rdA rfl)) ?_;refine aQ rfl rfl rfl rfl (aU rfl) ?_;refine dM ?_;refine d9 (bp _ _ _ ?_);refine gD ?_;refine r_loop (α:=Nat×Value×Seg×List Nat) (fun ⟨v,U,J,mk⟩=>mk) [6,7,8,25,37] (fun ⟨v,U,J,mk⟩=>[(26,.int .i64 (v:Int))]) (fun ⟨v,U,J,mk⟩=>[mks mk,[(b8,blk [U] 25)],J,[(F,blk (gA (eW n (fun v:Nat=>dS (v:Int) l) v).2) 4)],[(bo,blk vs 25)],ms.flatten,[(b1,blk [.int .i64 (n:Int),.slice A l.length cap] 24)]]) (fun ⟨v,U,J,mk⟩=>v≤n∧Own 3 1 U (eW n (fun v:Nat=>dS (v:Int) l) v).1.length (bF (eW n (fun v:Nat=>dS (v:Int) l) v).1) J) (fun ⟨v,U,J,mk⟩=>n - v) (0,.slice none 0 0,[],[]) rfl ?_ ?_ ?_ ?_
   ·exact aF
   ·exact aC
   ·exact ⟨Nat.zero_le _,Own.nil _ _⟩
   ·rintro ⟨v,U,J,mk⟩ ⟨bt,hO⟩;obtain ⟨au,bM⟩:=ordGo_small Y aa bt
    obtain ⟨Ao,co,rfl,bc⟩:=hO.val
    dsimp only;refine r_envC (e:=[(26,_),(6,_),(7,_),(8,_),(25,_)]) aF ?_;refine dW fun bY aw=>?_;refine cA ?_;refine aQ rfl rfl rfl rfl (o_lss rfl rfl) ?_;refine dM ?_;refine d9 (aw _ _ _ ?_);refine dW fun bW ay=>?_;refine kF rfl (fun bh=>?_) (fun bh=>?_)
    ·have hv:v<n:=aA
     refine iT ?_;refine d9 (ay _ _ _ ?_);refine dW fun b9 ac=>?_;refine gD ?_;refine dW fun b2 ap=>?_;refine cA ?_;refine aQ rfl rfl rfl rfl (aU rfl) ?_;refine aQ rfl rfl rfl rfl (bI rfl) ?_;refine dM ?_;refine d9 (ap _ _ _ ?_);refine dW fun b7 an=>?_;refine dW fun bD aq=>?_;refine cA ?_;refine aQ rfl rfl rfl rfl (aU rfl) ?_;refine aQ rfl rfl rfl rfl (aU rfl) ?_;refine aQ rfl rfl rfl rfl (aL o9 rfl rfl (v)) ?_;refine aQ rfl rfl rfl rfl (aH Tryz.isAgg4 rfl (rdA (boolsG_at aA))) ?_;refine dM ?_;refine d9 (aq _ _ _ ?_);refine r_condB rfl (fun aj=>?_) (fun aj=>?_)
     ·refine lF ?_;refine r_te ?_;refine r_be ?_;refine d9 (ac _ _ _ ?_);refine cA ?_;refine aQ rfl rfl rfl rfl (a8 rfl rfl) ?_;refine aQ rfl rfl rfl rfl (aU rfl) ?_;refine dM ?_;have X:eW n (fun v:Nat=>dS (v:Int) l) (v+1)=(eW n (fun v:Nat=>dS (v:Int) l) v):=if_pos aj
      rw [← X];refine d9 (lM (v+1,.slice Ao (eW n (fun v:Nat=>dS (v:Int) l) (v+1)).1.length co,J,mk) (by first|omega|(dsimp only;omega)|(simp;omega)) rfl ⟨aA,by rw [X];exact hO⟩ ?_ ?_ ?_)
      ·exact aF
      ·exact aF
      ·exact aC
     ·have bq:=bfs_inv Y au hv
      have bB:=bq.out
      refine iT ?_;refine d9 (an _ _ _ ?_);refine dW fun b6 az=>?_;refine cA ?_;refine aQ rfl rfl rfl rfl (aU rfl) ?_;refine aQ rfl rfl rfl rfl (aU rfl) ?_;refine aQ rfl rfl rfl rfl (aU rfl) ?_;refine fR rfl rfl rfl (Does.toR rfl (aV Tryz.call169 rfl (fun w_ O=>around_spec n bo F (v:Int) w_) ?_));rintro _ _ ⟨q3,q4,q5,rfl,rfl⟩;dsimp only [aK,aJ];refine dM ?_;refine d9 (az _ _ _ ?_);refine gD ?_;refine r_range (p:=37) (lb:=[.pointer (some ⟨q5,0,none⟩),.pointer (some ⟨q4,0,none⟩),.pointer (some ⟨q3,0,none⟩)]) rfl Tryz.call188 rfl [[(b8,blk [.slice Ao (eW n (fun v:Nat=>dS (v:Int) l) v).1.length co] 25)],J] [[(q5,blk [.slice (some ⟨F,0,none⟩) n n] 37)],[(q4,blk [.int .i64 (v:Int)] 3)],[(q3,blk [.slice (some ⟨bo,0,none⟩) n n] 32)],[(F,blk (gA (eW n (fun v:Nat=>dS (v:Int) l) v).2) 4)],[(bo,blk vs 25)],ms.flatten] [mks mk,[(b1,blk [.int .i64 (n:Int),.slice A l.length cap] 24)]] (by repeat (first|exact Sub.refl|exact aP|refine aM ?_|refine cE rfl ?_|refine fU ?_)) (fun y:Int=>Value.int .i64 y) (may:=arMay (bfs n (fun v:Nat=>dS (v:Int) l) v (eW n (fun v:Nat=>dS (v:Int) l) v).2)) (Fin:=arFin (bfs n (fun v:Nat=>dS (v:Int) l) v (eW n (fun v:Nat=>dS (v:Int) l) v).2) n v F bo q3 q4 q5 vs ms.flatten) (Stp:=arStp (bfs n (fun v:Nat=>dS (v:Int) l) v (eW n (fun v:Nat=>dS (v:Int) l) v).2) n v F bo q3 q4 q5 vs ms.flatten) (fun al bj O=>rB n v F bo q3 q4 q5 l (eW n (fun v:Nat=>dS (v:Int) l) v).2 vs ms bj al au hv aa hR Y be) (fun ys m=>∃ U J,m=[(b8,blk [U] 25)]++J∧Own 3 1 U ((eW n (fun v:Nat=>dS (v:Int) l) v).1++ys).length (bF ((eW n (fun v:Nat=>dS (v:Int) l) v).1++ys)) J) (fun _ _=>False) (.ret) (⟨.slice Ao (eW n (fun v:Nat=>dS (v:Int) l) v).1.length co,J,aN,by rw [List.append_nil];exact hO⟩) ?_ ?_ ?_
      ·intro al l_ d_ ys y m_ hI a1 bC K_ ax;obtain ⟨U,J,rfl,hO⟩:=hI
       have bR:=mayLen a1
       obtain ⟨Ao,co,rfl,bc⟩:=hO.val
       have bK:((eW n (fun v:Nat=>dS (v:Int) l) v).1++ys).length=(eW n (fun v:Nat=>dS (v:Int) l) v).1.length+ys.length:=List.length_append
       refine r_subC (Sub.op3 (parts:=[[(b8,blk [.slice Ao ((eW n (fun v:Nat=>dS (v:Int) l) v).1++ys).length co] 25)],J]) aN Sub.refl) ?_;dsimp only [aK,aJ];refine cA ?_;refine aQ rfl rfl rfl rfl (bI rfl) ?_;refine dM ?_;refine d9 (ax _ _ ?_);clear ax;refine gD ?_;refine cA ?_;refine aQ rfl rfl rfl rfl (aH Tryz.isAgg25 rfl (rdA rfl)) ?_;refine aQ rfl rfl rfl rfl (aU rfl) ?_;refine fR rfl rfl rfl (Does.toR rfl (bQ eL aA rfl rfl rfl fun bL=>?_));refine fR rfl rfl rfl (Does.toR rfl (dE eL rfl rfl hO (ys:=[.int .i64 y]) ⟨(rdA rfl),trivial⟩ rfl rfl aA aA fun cd ag ar=>?_));obtain ⟨ah,ak,rfl,_⟩:=ar.val
       refine kS rfl rfl (Does.toR rfl (bU Tryz.sizeOf25 rfl rfl rfl rfl cF [.slice ah (((eW n (fun v:Nat=>dS (v:Int) l) v).1++ys).length+1) ak] rfl ?_));refine dM ?_;refine r_bn ?_;exact qF (m' :=[(b8,blk [.slice ah (((eW n (fun v:Nat=>dS (v:Int) l) v).1++ys).length+1) ak] 25)]++ag) (Sub.reg (out:=[[(l_,.loop (d_.rc .busy none))],[(d_.D,.deferred (some []))],[(b8,blk [.slice ah (((eW n (fun v:Nat=>dS (v:Int) l) v).1++ys).length+1) ak] 25)],ag]) aC aN) ⟨_,ag,rfl,by rw [← List.append_assoc,← gM];exact ar⟩
      ·intro D_ ys m_ o_ hF hI;obtain ⟨b5,Z,rfl,ao⟩:=hI
       obtain ⟨A2,c2,rfl,bw⟩:=ao.val
       obtain ⟨bu,rfl⟩:=hF
       have ad:eW n (fun v:Nat=>dS (v:Int) l) (v+1)=((eW n (fun v:Nat=>dS (v:Int) l) v).1++ys,(bfs n (fun v:Nat=>dS (v:Int) l) v (eW n (fun v:Nat=>dS (v:Int) l) v).2).2):=by rw [bu];exact if_neg (by rw [aj];simp)
       refine r_subQ (Sub.reg (out:=[[(D_,.deferred (some []))],mks mk,[(b8,blk [.slice A2 ((eW n (fun v:Nat=>dS (v:Int) l) v).1++ys).length c2] 25)],Z,[(F,blk (gA (bfs n (fun v:Nat=>dS (v:Int) l) v (eW n (fun v:Nat=>dS (v:Int) l) v).2).2) 4)],[(bo,blk vs 25)],ms.flatten,[(b1,blk [.int .i64 (n:Int),.slice A l.length cap] 24)]]) (out' :=[mks (D_::mk),[(b8,blk [.slice A2 ((eW n (fun v:Nat=>dS (v:Int) l) v).1++ys).length c2] 25)],Z,[(F,blk (gA (bfs n (fun v:Nat=>dS (v:Int) l) v (eW n (fun v:Nat=>dS (v:Int) l) v).2).2) 4)],[(bo,blk vs 25)],ms.flatten,[(b1,blk [.int .i64 (n:Int),.slice A l.length cap] 24)]]) (Sub.op2 (parts:=[[(b8,blk [.slice A2 ((eW n (fun v:Nat=>dS (v:Int) l) v).1++ys).length c2] 25)],Z]) aN (by dsimp only [aK,aJ];repeat first|exact aP|refine aM ?_|refine cE rfl ?_|refine fU ?_)) (by simp [mks])) ?_;refine r_bn ?_;refine r_bn ?_;refine d9 (ac _ _ _ ?_);refine cA ?_;refine aQ rfl rfl rfl rfl (a8 rfl rfl) ?_;refine aQ rfl rfl rfl rfl (aU rfl) ?_;refine dM ?_;rw [show (bfs n (fun v:Nat=>dS (v:Int) l) v (eW n (fun v:Nat=>dS (v:Int) l) v).2).2=(eW n (fun v:Nat=>dS (v:Int) l) (v+1)).2 from by rw [ad]];refine d9 (lM (v+1,.slice A2 ((eW n (fun v:Nat=>dS (v:Int) l) v).1++ys).length c2,Z,D_::mk) (by first|omega|(dsimp only;omega)|(simp;omega)) rfl ⟨aA,by rw [ad];exact ao⟩ ?_ ?_ ?_)
       ·exact aF
       ·exact aF
       ·exact aC
      ·intro D_ ys m_ o_ hF hI;exact hI.elim
    ·obtain rfl:n=v:=aA
     refine lF ?_;refine r_te ?_;refine r_te ?_;refine r_be ?_;refine d9 (bf _ _ _ ?_);refine dW fun ce av=>?_;refine cA ?_;refine aQ rfl rfl rfl rfl (aH Tryz.isAgg25 rfl (rdA rfl)) ?_;refine aQ rfl rfl rfl rfl (bI rfl) ?_;refine aQ rfl rfl rfl rfl (bI rfl) ?_;refine dM ?_;refine d9 (av _ _ _ ?_);refine nF ?_;exact lE [J] Tryz.results137 rfl rfl aC ⟨.slice Ao (eW n (fun v:Nat=>dS (v:Int) l) n).1.length co,J,by rw [ab],rfl,by rw [ab];exact hO⟩
end Go.Proofs.YthpkelafioikaaaGreat
