import Derived.Test.YthpkelafioikaaaGreatFlyRun
import Derived.Test.YthpkelafioikaaaGreatAll5
import Derived.Test.YthpkelafioikaaaGreatAll4
namespace Go.Proofs.YthpkelafioikaaaGreat
open Go Go.RowKit Fly
set_option maxRecDepth 100000
set_option maxHeartbeats 4000000
set_option linter.all false
theorem qF (ep:Int) (w:World) (he:0≤ep∧ep≤1073741824):Meets Tryz.prog 126 [.int .i64 ep] w [] (fun u m=>u= .bool true∧m=[]):=by
 refine bG Tryz.func126 rfl Tryz.ntmps126 rfl Owns.nil<|aG fun kh1=>aB 1 rfl<|aD kh1<|aG fun kh2=>aB 3 rfl<|f_trueL 5 rfl aA<|aB 4 rfl<|aD kh2<|aZ ?_
 exact bO [] Tryz.results126 rfl aP ⟨by rw [decide_eq_true he.2],rfl⟩
theorem qCheck_spec (n:Nat) (A:Option Addr) (l:List Arc) (cap:Nat) (Z:Option Addr) (bs:List Int) (cb:Nat) (Y:Option Addr) (R:List Row) (cc:Nat) (m:Mx) (w:World) (hG:GN (Fr w []) w n A l Z bs Y R) (O:clE (n:Int) l bs (bJ R) m.lv m.cl=0) (he:0≤m.ep∧m.ep≤1073741824) (hD:m.D.length=(bdL ((bJ R).getD (m.lv.toNat - 1) []) m.cl l).length*(bdL ((bJ R).getD (m.lv.toNat - 1) []) m.cl l).length):
    Meets Tryz.prog 74 [.agg #[.int .i64 (n:Int),.slice A l.length cap],.agg #[.slice Z bs.length cb,.slice Y R.length cc],.agg (gW m).toArray] w [] (fun u own=>u= .int .i64 0∧own=[]):=by
 have ac:=hG
 obtain ⟨hr,hok,hn,J⟩:=ac
 obtain ⟨aj,al,hlen,ah⟩:=cF J.g
 have hl:l.length≤9223372036854775807:=aA
 have hN:I64 (n:Int):=by constructor<;>omega
 have aa:=J.len
 rw [eZ] at aa;have ab:=J.many
 have U:=nX ((bJ R).getD (m.lv.toNat - 1) []) m.cl l
 have ai:=Nat.mul_le_mul U U
 have ag:2*l.length*(2*l.length)≤16384*16384:=Nat.mul_le_mul aA aA
 refine bG Tryz.func74 rfl Tryz.ntmps74 rfl Owns.nil<|aG fun kh1=>f_S (cZ rfl rfl fun b3=>?_)
 refine f_S (cZ rfl rfl fun b4=>?_);refine f_S (cZ (cs:=gW m) rfl rfl fun b5=>?_);refine aB 1 rfl<|aD kh1<|aV fun kh2=>aG fun kh3=>f_Q (aQ (vs:=[_,_]) Tryz.isAgg24 Tryz.sizeOf24 rfl rfl ⟨(rdA rfl),(rdA rfl),trivial⟩)<|f_Q (aQ (vs:=[_,_]) Tryz.isAgg34 Tryz.sizeOf34 rfl rfl ⟨(rdA rfl),(rdA rfl),trivial⟩) ?_
 refine f_S (aW Tryz.call38 rfl (fun X F=>oO (n:Int) A l cap Z bs cb Y R cc X (hr.up0 F) hl hN hok (hn.up0 F)) ?_);rintro _ _ ⟨rfl,rfl⟩;rw [J.zero];dsimp only [aK,aJ];refine aB 5 rfl<|aD kh3<|aG fun kh4=>aB 2 rfl<|aD kh4<|d4 rfl aO<|bZ kh2<|aG fun kh5=>f_Q (aQ (vs:=[_,_]) Tryz.isAgg24 Tryz.sizeOf24 rfl rfl ⟨(rdA rfl),(rdA rfl),trivial⟩)<|f_Q (aQ (vs:=[_,_]) Tryz.isAgg34 Tryz.sizeOf34 rfl rfl ⟨(rdA rfl),(rdA rfl),trivial⟩) ?_
 refine cN fa138_0 rfl<|c7 Tryz.isAgg3 rfl (rdA rfl)<|cN fa138_1 rfl<|c7 Tryz.isAgg3 rfl (rdA rfl) ?_
 refine f_S (aW Tryz.call9 rfl (fun X F=>i8 (n:Int) A l cap Z bs cb Y R cc m.lv m.cl X (hr.up0 F) hl hN hok (hn.up0 F)) ?_);rintro _ _ ⟨B,AB,cB,mB,rfl,rfl,ak,_,ad⟩;obtain rfl:=ad O
 rw [O];dsimp only [aK,aJ];refine aB 5 rfl<|aD kh5<|aV fun kh6=>aG fun ae=>aB 3 rfl<|i4 32 rfl aO<|eI rfl rfl (aT fa138_2 rfl)<|eI rfl rfl (aH Tryz.isAgg3 rfl (rdA rfl)) ?_
 refine k9 rfl rfl rfl rfl rfl (aW Tryz.call126 rfl (fun X F=>qF m.ep X he) ?_);rintro _ _ ⟨rfl,rfl⟩;dsimp only [aK,aJ];refine aB 3 rfl<|eI rfl rfl (aT k8 rfl)<|eI rfl rfl (aH Tryz.isAgg41 rfl (rdA rfl))<|eI rfl rfl (iZ j6 rfl)<|aB 1 rfl<|eI rfl rfl (iZ bU rfl)<|aB 1 rfl<|eI rfl rfl (iZ bU rfl)<|eI rfl rfl (o_mul rfl rfl _ (mul_q aA))<|aB 2 rfl ?_
 refine aD ae<|d4 rfl (by rw [hD];simp) ?_
 refine bZ kh6<|aG fun kh8=>aB 1 rfl<|aD kh8<|aZ ?_
 exact bO [] Tryz.results74 rfl aP ⟨rfl,rfl⟩
theorem Weights_spec (n:Nat) (A:Option Addr) (l:List Arc) (cap:Nat) (B:Option Addr) (arcs:List Int) (cb:Nat) (w:World) (hr:Ro (Fr w []) w A (l.flatMap cH)) (hok:∀ x∈l,eN x) (hg:(cL (n:Int) l).2=0) (hB:Ro (Fr w []) w B (a8 arcs)) (aa:ArcsIn l arcs) (ha:arcs.length≤16384):
    Meets Tryz.prog 120 [.agg #[.int .i64 (n:Int),.slice A l.length cap],.slice B arcs.length cb] w [] (fun u own' =>∃ A' c' m',u= .tuple #[.slice A' arcs.length c',.int .i64 0]∧own' =[m']∧Own 56 1 (.slice A' arcs.length c') arcs.length (w32s (wtL l arcs)) m'):=by
 obtain ⟨al,an,hlen,aj⟩:=cF hg
 have hl:l.length≤9223372036854775807:=aA
 have hN:I64 (n:Int):=by constructor<;>omega
 refine bG Tryz.func120 rfl Tryz.ntmps120 rfl Owns.nil<|aG fun kh1=>f_S (cZ rfl rfl fun b2=>?_)
 refine aB 2 rfl<|aD kh1<|aV fun kh2=>aG fun kh3=>f_Q (aQ (vs:=[_,_]) Tryz.isAgg24 Tryz.sizeOf24 rfl rfl ⟨(rdA rfl),(rdA rfl),trivial⟩) ?_
 refine f_S (aW Tryz.call20 rfl (fun w_ Z=>gF (n:Int) A l cap w_ (hr.up0 Z) hl hN hok) ?_);rintro _ _ ⟨rfl,rfl⟩;rw [hg];dsimp only [aK,aJ];refine aB 5 rfl<|aD kh3<|aG fun kh4=>aB 2 rfl<|aD kh4<|d4 rfl aO<|bZ kh2<|aV fun kh5=>aG fun kh6=>aB 1 rfl ?_
 refine dY bU rfl<|aB 1 rfl<|aD kh6<|d4 rfl aA<|bZ kh5<|aG fun kh7=>aB 1 rfl<|dY bU rfl<|f_S (o_make0 el204 rfl rfl arcs.length rfl aA aA fun v24 m24 o24=>?_)
 refine aB 1 rfl<|aD kh7<|aV fun kh8=>aG fun ac=>aB 1 rfl<|dY bU rfl<|aB 1 rfl<|aD ac<|aS ?_
 refine dF (α:=Nat×Value×Seg) [2,25,26] (fun ⟨k,ov,J⟩=>[(27,.int .i64 (k:Int)),(8,ov)]) (fun ⟨k,ov,J⟩=>[J,[(b2,blk [.int .i64 (n:Int),.slice A l.length cap] 24)]]) (fun ⟨k,ov,J⟩=>k≤arcs.length∧Own 56 1 ov (wtL l (arcs.take k)).length (w32s (wtL l (arcs.take k))) J) (fun ⟨k,ov,J⟩=>arcs.length - k) (0,v24,m24) ?_ ?_ ?_ ?_
 ·exact aF
 ·exact aC
 ·exact ⟨Nat.zero_le _,o24⟩
 ·rintro ⟨k,ov,J⟩ ⟨ao,U⟩;refine aG fun kh10=>aB 1 rfl<|aD kh10<|aV fun kh11=>aX rfl (fun ad=>?_) (fun ad=>?_)
  ·have hk:k<arcs.length:=aA
   obtain ⟨i,hi,O⟩:=aa _ (List.getElem_mem hk)
   obtain ⟨bB,oB,rfl,Y,ag⟩:=hB (gX hk)
   obtain ⟨bl,off,rfl,hS,hc⟩:=hr (fH cH dO aA O)
   have ah:=wtL_next hk O hi
   have F:=wtL_len l (arcs.take k)
   rw [List.length_take] at F;refine bZ kh11<|aV fun kh12=>aS<|aG fun kh13=>f_Q (aM bU rfl rfl (oB+k))<|f_Q (aH Tryz.isAgg3 rfl (show Rd _ _ _ _ _ (.int .i64 (i:Int)) by rw [← hi];exact eC (enc:=(.int .i64 ·)) Y ag hk)) ?_
   refine aB 1 rfl<|aD kh13<|aV fun kh14=>aG fun X=>aB 3 rfl<|i4 33 rfl aA<|aB 1 rfl<|eI rfl rfl (aT gM rfl)<|eI rfl rfl (aH Tryz.isAgg22 rfl (rdA rfl))<|eI rfl rfl (iZ j7 rfl) ?_
   refine aB 2 rfl<|aD X<|d4 rfl aA<|bZ kh14<|aI<|aB 1 rfl<|cN gM rfl<|c7 Tryz.isAgg22 rfl (rdA rfl)<|aB 1 rfl<|f_Q (aM j7 rfl rfl (off+i*3)) ?_
   refine cN fa69_2 rfl<|f_Q (aH Tryz.isAgg56 rfl (rdS hS (by have:=hc (i*3+2) _ (by rw [i1 cH dO l i 2 O aA];rfl);rwa [← Nat.add_assoc] at this))) ?_
   refine f_S (bX el204 aA rfl rfl rfl fun ak=>?_);refine f_S (dJ el204 rfl rfl U (ys:=[.int .u32 l[i].wt]) ⟨(rdA rfl),trivial⟩ rfl rfl aA aA fun ab ai ae=>?_);refine aB 1 rfl<|aY<|dI<|bP kh12<|aI<|f_Q (bF rfl rfl)<|aB 1 rfl<|aY ?_
   refine cV (a6 (k+1,ab,ai) (by first|omega|(dsimp only;omega)|(simp;omega)) ⟨aA,by rw [ah,List.length_append,w32s_append];exact ae⟩ ?_ ?_ ?_)
   ·exact aF
   ·exact aF
   ·exact aC
  ·obtain rfl:k=arcs.length:=aA
   rw [List.take_length] at U;have F:=wtL_len l arcs
   obtain ⟨Ao,co,rfl,am⟩:=U.val
   refine cS<|cU<|cU<|eH<|bP kh8<|aG fun kh16=>aB 3 rfl<|aD kh16<|aZ ?_
   exact dB [J] Tryz.results120 rfl rfl aC ⟨Ao,co,J,by rw [F],rfl,by rw [F] at U;exact U⟩
theorem qrow_spec (n:Nat) (A:Option Addr) (l:List Arc) (cap b1 b2 b3 bm:Nat) (Bi:Option Addr) (U:List Bool) (ci:Nat) (Bl:Option Addr) (B:List Int) (cl:Nat) (lv c ep:Int) (dv:Value) (D:List Int) (Z:Seg) (v:Nat) (w:World) (hr:Ro (Fr w [[(bm,blk [.int .i64 lv,.int .i64 c,.int .i64 ep,dv] 138)],Z]) w A (l.flatMap cH)) (hok:∀ x∈l,eN x) (hg:(cL (n:Int) l).2=0)
    (h1:Ro (Fr w [[(bm,blk [.int .i64 lv,.int .i64 c,.int .i64 ep,dv] 138)],Z]) w (some ⟨b1,0,none⟩) [.int .i64 (n:Int),.slice A l.length cap]) (h2:Ro (Fr w [[(bm,blk [.int .i64 lv,.int .i64 c,.int .i64 ep,dv] 138)],Z]) w (some ⟨b2,0,none⟩) [.slice Bi U.length ci]) (h3:Ro (Fr w [[(bm,blk [.int .i64 lv,.int .i64 c,.int .i64 ep,dv] 138)],Z]) w (some ⟨b3,0,none⟩) [.slice Bl B.length cl]) (hi:Ro (Fr w [[(bm,blk [.int .i64 lv,.int .i64 c,.int .i64 ep,dv] 138)],Z]) w Bi (U.map .bool)) (bC:U.length=n) (hB:Ro (Fr w [[(bm,blk [.int .i64 lv,.int .i64 c,.int .i64 ep,dv] 138)],Z]) w Bl (a8 B)) (aj:∀ u∈B,0≤u∧u<(n:Int)) (br:B.length≤16384)
    (bj:v<n) (hv:U.getD v false=true) (hO:Own 46 1 dv D.length (eT D) Z) (bk:D.length≤268435456) (hw:Owns w [[(bm,blk [.int .i64 lv,.int .i64 c,.int .i64 ep,dv] 138)],Z]):
    Meets Tryz.prog 174 ([.int .i64 (v:Int)]++[.pointer (some ⟨b1,0,none⟩),.pointer (some ⟨b2,0,none⟩),.pointer (some ⟨b3,0,none⟩),.pointer (some ⟨bm,0,none⟩)]) w [[(bm,blk [.int .i64 lv,.int .i64 c,.int .i64 ep,dv] 138)],Z]
      (fun u own' =>∃ W J F,u= .int .i64 0∧own' =[[(bm,blk [.int .i64 lv,.int .i64 c,.int .i64 ep,J] 138)],F]∧Own 46 1 J (D++j8 B W).length (eT (D++j8 B W)) F∧IsD n (l.map (trn false)) (pW l U) v W):=by
 obtain ⟨bt,bv,hlen,bu⟩:=cF hg
 have hl:l.length≤9223372036854775807:=aA
 have hN:I64 (n:Int):=by constructor<;>omega
 have ao:fV (n:Int) l [(v:Int)]=0:=by unfold fV;rw [if_neg (by rw [hg];simp),if_neg (by simp;omega)]
 have ae:oY (n:Int) l (v:Int) U.length=0:=by unfold oY;rw [if_neg (by rw [ao];simp),if_neg aA]
 obtain ⟨bg,aw,bi,ah,ag⟩:=h1 aO
 obtain ⟨rfl,rfl⟩:b1=bg∧0=aw:=by cases bi;exact ⟨rfl,rfl⟩
 obtain ⟨ar,ay,ap,bf,an⟩:=h2 aO
 obtain ⟨rfl,rfl⟩:b2=ar∧0=ay:=by cases ap;exact ⟨rfl,rfl⟩
 obtain ⟨az,bh,be,a2,aq⟩:=h3 aO
 obtain ⟨rfl,rfl⟩:b3=az∧0=bh:=by cases be;exact ⟨rfl,rfl⟩
 refine bG Tryz.func174 rfl Tryz.ntmps174 rfl hw<|aG fun kh1=>aB 1 rfl<|aD kh1<|aG fun kh2=>f_Q (aQ (vs:=[_,_]) Tryz.isAgg24 Tryz.sizeOf24 rfl rfl ⟨(rdS ah (ag 0 _ rfl)),(rdS ah (ag 1 _ rfl)),trivial⟩)<|aB 1 rfl<|f_Q (aH Tryz.isAgg37 rfl (rdS bf (an 0 _ rfl))) ?_
 refine f_S (aW Tryz.call10 rfl (fun w_ ad=>WithinB_spec (n:Int) A l cap (v:Int) Bi U ci w_ (hr.up0 ad) (hi.up0 ad) hl hN hok) ?_);rintro _ _ ⟨vW,mW,W,rfl,rfl,ak,_,au⟩;rw [ae];have hW:=au ae
 rw [Int.toNat_natCast,Int.toNat_natCast,if_pos hv] at hW;obtain ⟨hW,_⟩:=hW
 have bD:=hW.len
 obtain ⟨AW,cW,rfl,bw⟩:=ak.val
 obtain ⟨bW,ac,rfl,rfl⟩:=ak.at_ aA
 dsimp only [aK,aJ];refine aB 5 rfl<|aD kh2<|aV fun kh3=>aG fun kh4=>aB 2 rfl<|aD kh4<|d4 rfl aO<|bZ kh3<|aV fun kh5=>aG fun av=>?_
 refine f_Q (aH Tryz.isAgg25 rfl (rdS a2 (aq 0 _ rfl)))<|dY bU rfl<|aB 1 rfl<|aD av<|aS ?_
 refine dF (α:=Nat×Value×Seg) [4,7,21,22] (fun ⟨j,J,F⟩=>[(23,.int .i64 (j:Int))]) (fun ⟨j,J,F⟩=>[[(bm,blk [.int .i64 lv,.int .i64 c,.int .i64 ep,J] 138)],F,[(bW,blk (eT W++ac) 46)]]) (fun ⟨j,J,F⟩=>j≤B.length∧Own 46 1 J (D++j8 (B.take j) W).length (eT (D++j8 (B.take j) W)) F) (fun ⟨j,J,F⟩=>B.length - j) (0,dv,Z) ?_ ?_ ?_ ?_
 ·exact aF
 ·exact aC
 ·exact ⟨Nat.zero_le _,by simpa [j8] using hO⟩
 ·rintro ⟨j,J,F⟩ ⟨bp,aa⟩;refine aG fun kh7=>aB 1 rfl<|aD kh7<|aV fun kh8=>aX rfl (fun al=>?_) (fun al=>?_)
  ·have hj:j<B.length:=aA
   obtain ⟨u,hu,bq⟩:∃ u:Nat,B[j]=(u:Int)∧u<n:=⟨B[j].toNat,by have:=aj _ (List.getElem_mem hj);omega,by have:=aj _ (List.getElem_mem hj);omega⟩
   obtain ⟨bB,oB,rfl,a1,am⟩:=hB (gX hj)
   have ai:j8 (B.take (j+1)) W=j8 (B.take j) W++[dg W u]:=by rw [rowD_take hj,hu];rfl
   have ba:=rowD_len (B.take j) W
   rw [List.length_take] at ba;refine bZ kh8<|aV fun kh9=>aS<|aG fun kh10=>f_Q (aM bU rfl rfl (oB+j))<|f_Q (aH Tryz.isAgg3 rfl (show Rd _ _ _ _ _ (.int .i64 (u:Int)) by rw [← hu];exact eC (enc:=(.int .i64 ·)) a1 am hj)) ?_
   refine aB 1 rfl<|aD kh10<|cQ [[(bW,blk (eT W++ac) 46)]] rfl<|f_T 0 rfl (aT k8 rfl)<|f_T 2 rfl (aR rfl)<|f_T 3 rfl (aR rfl)<|f_T 4 rfl (aM j6 rfl rfl (u))<|f_T 5 rfl (aH Tryz.isAgg46 rfl (rdA (d7 (iE (mF aA)))))<|gD 1 6 rfl rfl aU rfl rfl rfl rfl rfl rfl ?_ ?_
   ·refine (aH Tryz.isAgg41 rfl (rdA rfl)).does ⟨aC,?_⟩;refine f_O 6 rfl (bX qV aA rfl rfl rfl fun bc=>⟨aC,?_⟩);refine f_O 7 rfl (dJ qV rfl rfl aa (ys:=[.int .u64 (dg W u)]) ⟨(rdA rfl),trivial⟩ rfl rfl (by rw [List.length_append];omega) (by rw [List.length_append];omega) fun ax ab Y=>⟨aC,?_⟩);obtain ⟨X,O,rfl,_⟩:=Y.val
    refine f_T 8 rfl (aT k8 rfl)<|fX 9 rfl (bQ Tryz.sizeOf41 rfl rfl rfl rfl (Nat.le_refl _) [.int .i64 lv,.int .i64 c,.int .i64 ep,.slice X ((D++j8 (B.take j) W).length+1) O] rfl ⟨aC,?_⟩)
    refine cO aU<|dI<|bP kh9<|aI<|f_Q (bF rfl rfl)<|aB 1 rfl<|aY ?_
    refine cV (a6 (j+1,.slice X ((D++j8 (B.take j) W).length+1) O,ab) (by first|omega|(dsimp only;omega)|(simp;omega)) ⟨aA,by rw [ai,← List.append_assoc,← u64_len1];exact Y⟩ ?_ ?_ ?_)
    ·exact aF
    ·exact aF
    ·exact aC
   ·refine (bX qV aA rfl rfl rfl fun bc=>⟨aC,?_⟩);refine f_O 1 rfl ((aH Tryz.isAgg41 rfl (rdA rfl)).does ⟨aC,?_⟩);refine f_O 7 rfl (dJ qV rfl rfl aa (ys:=[.int .u64 (dg W u)]) ⟨(rdA rfl),trivial⟩ rfl rfl (by rw [List.length_append];omega) (by rw [List.length_append];omega) fun ax ab Y=>⟨aC,?_⟩);obtain ⟨X,O,rfl,_⟩:=Y.val
    refine f_T 8 rfl (aT k8 rfl)<|fX 9 rfl (bQ Tryz.sizeOf41 rfl rfl rfl rfl (Nat.le_refl _) [.int .i64 lv,.int .i64 c,.int .i64 ep,.slice X ((D++j8 (B.take j) W).length+1) O] rfl ⟨aC,?_⟩)
    refine cO aU<|dI<|bP kh9<|aI<|f_Q (bF rfl rfl)<|aB 1 rfl<|aY ?_
    refine cV (a6 (j+1,.slice X ((D++j8 (B.take j) W).length+1) O,ab) (by first|omega|(dsimp only;omega)|(simp;omega)) ⟨aA,by rw [ai,← List.append_assoc,← u64_len1];exact Y⟩ ?_ ?_ ?_)
    ·exact aF
    ·exact aF
    ·exact aC
  ·obtain rfl:j=B.length:=aA
   rw [List.take_length] at aa;refine cS<|cU<|cU<|eH<|bP kh5<|aG fun kh11=>aB 1 rfl<|aD kh11<|aZ ?_
   exact bO [[(bm,blk [.int .i64 lv,.int .i64 c,.int .i64 ep,J] 138)],F] Tryz.results174 rfl aC ⟨W,J,F,rfl,rfl,aa,hW⟩
theorem qwithin_spec (n:Nat) (A:Option Addr) (l:List Arc) (cap:Nat) (Ab:Option Addr) (bs:List Int) (cb:Nat) (Ac:Option Addr) (R:List Row) (cc:Nat) (q c ep:Int) (w:World) (hG:GN (Fr w []) w n A l Ab bs Ac R) (Z:clE (n:Int) l bs (bJ R) q c=0):
    Meets Tryz.prog 156 [.agg #[.int .i64 (n:Int),.slice A l.length cap],.agg #[.slice Ab bs.length cb,.slice Ac R.length cc],.int .i64 q,.int .i64 c,.int .i64 ep] w [] (fun u own' =>∃ D A' cap' m',u= .tuple #[.agg (gW ⟨q,c,ep,A',D,cap'⟩).toArray,.int .i64 0]∧own' =[m']∧Own 46 1 (.slice A' D.length cap') D.length (eT D) m'∧MatOk l ((bJ R).getD (q.toNat - 1) []) c D):=by
 have bc:=hG
 obtain ⟨hr,hok,hn,O⟩:=bc
 obtain ⟨bk,bt,hlen,ag⟩:=cF O.g
 have hl:l.length≤9223372036854775807:=aA
 have hN:I64 (n:Int):=by constructor<;>omega
 have ao:=O.len
 rw [eZ] at ao;have ak:=O.many
 obtain ⟨n',k,j0,bp,_,bj,bg,bv,bq⟩:=kD Z
 obtain rfl:n=n' :=aA
 have F:k<R.length:=aA
 obtain ⟨L,hL⟩:∃ L,(bJ R).getD (q.toNat - 1) []=L:=⟨_,rfl⟩
 have ap:=O.rowlen (k:=k) aA
 have aq:=iV F
 rw [show q.toNat - 1 = k by omega] at hL;rw [hL] at ap;have aa : (R[k]'F).2.1 = L := by rw [← aq]; exact hL
 have ad:=hn.rows _ (List.getElem_mem F)
 have av:=nX L c l
 have U:=fun (v:Int) (h:v∈bdL L c l)=>nA (n:=n) ag h
 obtain ⟨B,hB⟩:∃ B,bdL L c l=B:=⟨_,rfl⟩
 rw [hB] at av U;obtain ⟨b0,o0,am,an,ax⟩:=hn.c (gX F)
 obtain ⟨br, or, a1, aw, ab⟩ := ad.1 (fun e => by have := a7 (R[k]'F).2.1; rw [e] at this; rw [aa] at this; simp at this; omega)
 rw [aa] at ab;refine bG Tryz.func156 rfl Tryz.ntmps156 rfl Owns.nil<|aG fun kh1=>f_S (cZ rfl rfl fun b5=>?_)
 refine f_S (cZ rfl rfl fun b6=>?_);refine f_S (cX Tryz.zeroValue138 rfl fun ai=>?_);refine aB 1 rfl<|aD kh1<|aG fun kh2=>f_Q (aQ (vs:=[_,_]) Tryz.isAgg24 Tryz.sizeOf24 rfl rfl ⟨(rdA rfl),(rdA rfl),trivial⟩)<|f_Q (aQ (vs:=[_,_]) Tryz.isAgg34 Tryz.sizeOf34 rfl rfl ⟨(rdA rfl),(rdA rfl),trivial⟩)<|aB 2 rfl ?_
 refine f_S (aW Tryz.call9 rfl (fun w_ hp_=>i8 (n:Int) A l cap Ab bs cb Ac R cc q c w_ (hr.up0 hp_) hl hN hok (hn.up0 hp_)) ?_);rintro _ _ ⟨J,AB,cB,mB,rfl,rfl,ah,_,be⟩;obtain rfl:J=B:=by rw [be Z,show q.toNat - 1=k by omega,hL,hB]
 rw [Z];dsimp only [aK,aJ];refine aB 3 rfl<|f_S (cX Tryz.zeroValue25 rfl fun b12=>?_)
 refine f_Z (bQ Tryz.sizeOf25 rfl rfl rfl rfl cG _ rfl ?_);refine aB 1 rfl<|aD kh2<|aV fun kh3=>aG fun kh4=>aB 2 rfl<|aD kh4<|d4 rfl aO<|bZ kh3<|aG fun kh5=>cN eV rfl ?_
 refine c7 Tryz.isAgg3 rfl (rdA rfl)<|f_S (e6 el37 rfl rfl n rfl aA aA ((mV L c n 0).map .bool) (by rw [inTo_zero,List.map_replicate];exact (rep_flatC n _).symm) fun b36=>?_)
 refine f_S (cX Tryz.zeroValue37 rfl fun Y=>?_);refine f_Z (bQ Tryz.sizeOf37 rfl rfl rfl rfl cG _ rfl ?_);refine aD kh5<|aV fun kh6=>aG fun au=>cN jF rfl<|f_Q (aH Tryz.isAgg32 rfl (v:= .slice (some ⟨b0,o0,none⟩) R.length cc) (rdA (by rw [← am];rfl))) ?_
 refine aB 1 rfl<|f_Q (j5 rfl rfl _ (Eq.trans (d8 aA) (show _=(k:Int) by omega))) ?_
 refine f_Q (aM g5 rfl rfl (o0 + k)) <| f_Q (aH Tryz.isAgg25 rfl (v := .slice (some ⟨br, or, none⟩) L.length (R[k]'F).2.2) (show Rd _ _ _ _ _ (Value.slice (some ⟨br, or, none⟩) L.length (R[k]'F).2.2) by rw [← a1, ← aa]; exact eC (enc := fI) an ax F)) ?_;refine dY bU rfl <| aB 1 rfl <| aD au <| aS ?_
 refine dF (α:=Nat) [2,3,4,5,10,12,14,42,43] (fun x=>[(44,.int .i64 (x:Int))]) (fun x=>[[(b36,blk ((mV L c n x).map .bool) 4)],[(Y,blk [.slice (some ⟨b36,0,none⟩) n n] 37)],[(b12,blk [.slice AB J.length J.length] 25)],mB,[(ai,blk [.int .i64 0,.int .i64 0,.int .i64 0,.slice none 0 0] 138)],[(b5,blk [.int .i64 (n:Int),.slice A l.length cap] 24)]]) (fun x=>x≤n) (fun x=>n - x) (0) ?_ ?_ ?_ ?_
 ·exact aF
 ·exact aC
 ·exact Nat.zero_le _
 ·rintro x bi;refine aG fun kh8=>aB 1 rfl<|aD kh8<|aV fun kh9=>aX rfl (fun az=>?_) (fun az=>?_)
  ·have hx:x<L.length:=aA
   have ay:=inTo_next (L:=L) (c:=c) (n:=n) (k:=x) aA
   refine bZ kh9<|aV fun kh10=>aS<|aG fun kh11=>aB 1 rfl<|f_Q (aM bU rfl rfl (or+x))<|f_Q (aH Tryz.isAgg3 rfl (eC (enc:=(.int .i64 ·)) aw ab hx))<|aB 2 rfl<|aD kh11<|aI ?_
   refine c7 Tryz.isAgg37 rfl (rdA rfl)<|aB 4 rfl<|f_Q (aM n4 rfl rfl (x))<|f_Z (bQ Tryz.sizeOf4 rfl rfl rfl rfl (by rw [List.length_map,pX];omega) ((mV L c n (x+1)).map .bool) (by rw [← ay,List.map_set,eJ hx]) ?_)
   refine aY<|dI<|bP kh10<|aI<|f_Q (bF rfl rfl)<|aB 1 rfl<|aY ?_
   refine cV (a6 (x+1) (by first|omega|(dsimp only;omega)|(simp;omega)) aA ?_ ?_ ?_)
   ·exact aF
   ·exact aF
   ·exact aC
  ·obtain rfl:n=x:=aA
   refine cS<|cU<|cU<|eH<|bP kh6<|aG fun kh12=>aB 3 rfl<|f_Q (dU st138 rfl rfl)<|f_S (cX Tryz.zeroValue138 rfl fun b17=>?_)
   refine f_Z (bS Tryz.sizeOf138 rfl rfl rfl rfl cG _ rfl ?_);refine aD kh12<|aG fun kh13=>f_Q (mH rfl rfl)<|aB 1 rfl<|aD kh13<|aV fun kh14=>aG fun aj=>c7 Tryz.isAgg25 rfl (rdA rfl)<|dY bU rfl<|aB 1 rfl ?_
   refine aD aj<|aS ?_
   refine dF (α:=Nat×List Int×Value×Seg) [10,17,18,61,62] (fun ⟨i,D,dv,X⟩=>[(63,.int .i64 (i:Int))]) (fun ⟨i,D,dv,X⟩=>[[(b17,blk [.int .i64 q,.int .i64 c,.int .i64 ep,dv] 138)],X,[(b36,blk ((mV L c n n).map .bool) 4)],[(Y,blk [.slice (some ⟨b36,0,none⟩) n n] 37)],[(b12,blk [.slice AB J.length J.length] 25)],mB,[(ai,blk [.int .i64 0,.int .i64 0,.int .i64 0,.slice none 0 0] 138)],[(b5,blk [.int .i64 (n:Int),.slice A l.length cap] 24)]]) (fun ⟨i,D,dv,X⟩=>i≤J.length∧Own 46 1 dv D.length (eT D) X∧MRows J (IsB l (pI l L c)) D i) (fun ⟨i,D,dv,X⟩=>J.length - i) (0,[],.slice none 0 0,[]) ?_ ?_ ?_ ?_
   ·exact aF
   ·exact aC
   ·exact ⟨Nat.zero_le _,Own.nil _ _,MRows.nil _ _⟩
   ·rintro ⟨i,D,dv,X⟩ ⟨bu,hO,hM⟩;refine fJ (e:=[(63,_),(10,_),(17,_),(18,_),(61,_),(62,_)]) aF ?_;refine aG fun kh16=>aB 1 rfl<|aD kh16<|aV fun kh17=>aX rfl (fun ba=>?_) (fun ba=>?_)
    ·have hi:i<J.length:=aA
     obtain ⟨v,hv,ac⟩:∃ v:Nat,J[i]=(v:Int)∧v<n:=⟨J[i].toNat,by have:=U _ (List.getElem_mem hi);omega,by have:=U _ (List.getElem_mem hi);omega⟩
     have ae:L.getD v 0=c:=by have:=bdL_in (L:=L) (c:=c) (l:=l) (v:=J[i]) (by rw [hB];exact List.getElem_mem hi);rw [hv,Int.toNat_natCast] at this;exact this
     obtain ⟨bB,bh,rfl,rfl⟩:=ah.at_ aA
     have al:D.length≤268435456:=by rw [hM.len];exact Nat.le_trans (Nat.mul_le_mul (show i≤16384 by omega) (show J.length≤16384 by omega)) (by decide)
     refine bZ kh17<|aV fun kh18=>aS<|aG fun kh19=>f_Q (aM bU rfl rfl (i))<|f_Q (aH Tryz.isAgg3 rfl (rdA (v:= .int .i64 (v:Int)) (d7 (by rw [d9 hi,hv])))) ?_
     refine aB 1 rfl<|aD kh19<|aG fun kh20=>aB 2 rfl ?_
     refine f_S (jE [[(b17,blk [.int .i64 q,.int .i64 c,.int .i64 ep,dv] 138)],X] _ Tryz.call174 rfl rfl (by repeat (first|exact Sub.refl|refine aL ?_)) (fun w_ hp_=>qrow_spec n A l cap b5 Y b12 b17 (some ⟨b36,0,none⟩) (mV L c n n) (mV L c n n).length (some ⟨bB,0,none⟩) J J.length q c ep dv D X v w_ (hr.up hp_) hok O.g (roFr hp_) (by have h:=roFr (b:=Y) hp_;rw [← pX L c n n] at h;exact h) (roFr hp_) (roFr hp_) (pX _ _ _ _) (Own.fr ah hp_) U aA ac (by rw [inTo_at ac];simpa using ae) hO al hp_.owns) ?_);rintro _ _ ⟨W,a2,ar,rfl,rfl,hO',hW⟩;dsimp only [aK,aJ];refine aB 1 rfl<|aD kh20<|aG fun kh21=>aB 2 rfl<|aD kh21<|d4 rfl aO<|dZ<|dI<|bP kh18<|aI ?_
     refine f_Q (bF rfl rfl)<|aB 1 rfl<|aY ?_
     refine cV (a6 (i+1,D++j8 J W,a2,ar) (by first|omega|(dsimp only;omega)|(simp;omega)) ⟨aA,hO',hM.next hi fun j hj=>by rw [hv,Int.toNat_natCast];exact within_row ag ae hW (by have:=U _ (List.getElem_mem hj);omega)⟩ ?_ ?_ ?_)
     ·exact aF
     ·exact aF
     ·exact aC
    ·obtain rfl:i=J.length:=aA
     obtain ⟨AD,cD,rfl,bf⟩:=hO.val
     refine cS<|cU<|cU<|eH<|bP kh14<|aG fun kh22=>f_Q (aQ (vs:=[_,_,_,_]) Tryz.isAgg138 Tryz.sizeOf138 rfl rfl ⟨(rdA rfl),(rdA rfl),(rdA rfl),(rdA rfl),trivial⟩)<|f_Z (bS Tryz.sizeOf138 rfl rfl rfl rfl cG _ rfl ?_)
     refine aB 1 rfl<|aD kh22<|aZ ?_
     exact gT (vs:=gW ⟨q,c,ep,AD,D,cD⟩) [X] Tryz.results156 rfl Tryz.isAgg138 Tryz.sizeOf138 rfl ⟨(rdA rfl),(rdA rfl),(rdA rfl),(rdA rfl),trivial⟩ rfl aC ⟨D,AD,cD,X,rfl,rfl,hO,by rw [show q.toNat - 1=k by omega,hL];exact ⟨by rw [hB];exact hM.len,by rw [hB];exact fun a j ha hj=>hM.at_ a j ha ha hj⟩⟩
theorem qweighed_spec (n:Nat) (A:Option Addr) (l:List Arc) (cap:Nat) (B:Option Addr) (arcs:List Int) (cb:Nat) (B2:Option Addr) (ai:Nat) (w:World) (hr:Ro (Fr w []) w A (l.flatMap cH)) (hlen:l.length≤8192) (hB:Ro (Fr w []) w B (a8 arcs)) (aa:ArcsIn l arcs) (ha:arcs.length≤16384) (ag:Ro (Fr w []) w B2 (w32s (wtL l arcs))):
    Meets Tryz.prog 157 [.agg #[.int .i64 (n:Int),.slice A l.length cap],.slice B arcs.length cb,.slice B2 arcs.length ai] w [] (fun u own' =>∃ A' c' m',u= .agg #[.int .i64 (n:Int),.slice A' l.length c']∧own' =[m']∧Own 69 3 (.slice A' l.length c') l.length (l.flatMap cH) m'):=by
 have hA:A=none→l.length=0:=fun e=>by
   rcases Nat.eq_zero_or_pos l.length with h|h
   · exact h
   · obtain ⟨b,o,e2,_⟩:=hr (fH cH dO aA h)
     rw [e] at e2;cases e2
 refine bG Tryz.func157 rfl Tryz.ntmps157 rfl Owns.nil<|aG fun kh1=>f_S (cZ rfl rfl fun b3=>?_)
 refine f_S (cX Tryz.zeroValue24 rfl fun b6=>?_);refine aD kh1 ?_;refine oU (α:=Nat×Option Addr×Nat×Seg) [1,2,6] (fun ⟨b7,A',c',F⟩=>[(7,.pointer (some ⟨b7,0,none⟩))]) (fun ⟨b7,A',c',F⟩=>[[(b7,blk [.int .i64 (n:Int),.slice A' l.length c'] 24)],F,[(b6,blk [.int .i64 0,.slice none 0 0] 24)]]) (fun ⟨b7,A',c',F⟩=>Own 69 3 (.slice A' l.length c') l.length (l.flatMap cH) F) ?_ ?_
 ·
  intro K2 Y;refine cQ [[(b3,blk [.int .i64 (n:Int),.slice A l.length cap] 24)],[(b6,blk [.int .i64 0,.slice none 0 0] 24)]] rfl<|f_T 0 rfl (aT eV rfl)<|f_T 1 rfl (aH Tryz.isAgg3 rfl (rdA rfl))<|f_T 2 rfl (aT gM rfl)<|f_T 3 rfl (aH Tryz.isAgg22 rfl (rdA rfl))<|gD 4 6 rfl rfl aU rfl rfl rfl rfl rfl rfl ?_ ?_
  ·
   refine (aW Tryz.call37 rfl (fun w_ O=>CloneA_spec A l.length (l.flatMap cH) cap w_ (hr.up0 O) hA (dX cH dO l) (arcs_one l) aA) ?_);rintro ab _ ⟨F,rfl,J⟩;obtain ⟨A',c',rfl,ak⟩:=J.val
   dsimp only [aK,aJ];refine ⟨aC,?_⟩;refine f_T 5 rfl (dU st24 rfl rfl)<|f_O 6 rfl (cX Tryz.zeroValue24 rfl fun b7=>⟨aC,?_⟩)
   refine fX 7 rfl (bS Tryz.sizeOf24 rfl rfl rfl rfl cG _ rfl ⟨aC,?_⟩);refine cO aU<|cV (Y _ _ (b7,A',c',F) J ?_ ?_ ?_)
   · exact aF
   · exact aF
   · exact aC
  ·
   refine (cX Tryz.zeroValue24 rfl fun b7=>⟨aC,?_⟩);refine f_O 4 rfl (aW Tryz.call37 rfl (fun w_ O=>CloneA_spec A l.length (l.flatMap cH) cap w_ (hr.up0 O) hA (dX cH dO l) (arcs_one l) aA) ?_);rintro ab _ ⟨F,rfl,J⟩;obtain ⟨A',c',rfl,ak⟩:=J.val
   dsimp only [aK,aJ];refine ⟨aC,?_⟩;refine f_T 5 rfl (dU st24 rfl rfl)<|fX 7 rfl (bS Tryz.sizeOf24 rfl rfl rfl rfl cG _ rfl ⟨aC,?_⟩)
   refine cO aU<|cV (Y _ _ (b7,A',c',F) J ?_ ?_ ?_)
   · exact aF
   · exact aF
   · exact aC
 ·
  rintro ⟨b7,A',c',F⟩ J;refine aV fun kh3=>aG fun ae=>aB 1 rfl<|dY bU rfl<|aB 1 rfl<|aD ae<|aS ?_
  refine dF (α:=Nat) [2,6,7,16,17] (fun k=>[(18,.int .i64 (k:Int))]) (fun k=>[F,[(b7,blk [.int .i64 (n:Int),.slice A' l.length c'] 24)],[(b6,blk [.int .i64 0,.slice none 0 0] 24)]]) (fun k=>k≤arcs.length) (fun k=>arcs.length - k) (0) ?_ ?_ ?_ ?_
  · exact aF
  · exact aC
  · exact Nat.zero_le _
  ·
   rintro k an;refine fJ (e:=[(18,_),(2,_),(6,_),(7,_),(16,_),(17,_)]) aF ?_;refine aG fun kh5=>aB 1 rfl<|aD kh5<|aV fun kh6=>aX rfl (fun al=>?_) (fun al=>?_)
   ·
    have hk:k<arcs.length:=aA
    obtain ⟨i,hi,U⟩:=aa _ (List.getElem_mem hk)
    obtain ⟨bB,oB,rfl,Z,ah⟩:=hB (gX hk)
    have am:=wtL_len l arcs
    have hwk:k<(wtL l arcs).length:=aA
    have ac:(wtL l arcs)[k]=l[i].wt:=by have:=wtL_at hk U hi;rw [List.getElem?_eq_getElem hwk] at this;exact Option.some.inj this
    obtain ⟨b2,o2,rfl,ad,aj⟩:=ag (gX hwk)
    obtain ⟨bo,X,rfl,rfl⟩:=J.at_ aA
    refine bZ kh6<|aV fun kh7=>aS<|aG fun kh8=>aB 1 rfl<|f_Q (aM bU rfl rfl (oB+k))<|f_Q (aH Tryz.isAgg3 rfl (show Rd _ _ _ _ _ (.int .i64 (i:Int)) by rw [← hi];exact eC (enc:=(.int .i64 ·)) Z ah hk)) ?_
    refine aB 2 rfl<|aD kh8<|cQ [[(b7,blk [.int .i64 (n:Int),.slice (some ⟨bo,0,none⟩) l.length c'] 24)]] rfl<|f_T 0 rfl (aT gM rfl)<|f_T 1 rfl (aH Tryz.isAgg22 rfl (rdA rfl))<|f_T 2 rfl (aR rfl)<|f_T 3 rfl (aR rfl)<|f_T 4 rfl (aR rfl)<|f_T 5 rfl (aM sl204 rfl rfl (o2+k))<|f_T 6 rfl (aH Tryz.isAgg56 rfl (show Rd _ _ _ _ _ (.int .u32 l[i].wt) by rw [← ac];exact eC (enc:=(.int .u32 ·)) ad aj hwk)) ?_
    refine f_T 7 rfl (aM j7 rfl rfl (i*3))<|f_T 8 rfl (aT fa69_2 rfl)<|fX 9 rfl (bQ Tryz.sizeOf56 rfl rfl rfl rfl (by show i*3+2+1≤_;rw [List.length_append,dX cH dO];omega) (l.flatMap cH++X) (by have h:=nH dO X (q:=2) (v:= .int .u32 l[i].wt) aA l i l[i] U rfl;rw [List.set_getElem_self] at h;exact h) ⟨aC,?_⟩)
    refine cO aU<|dI<|bP kh7<|aI<|f_Q (bF rfl rfl)<|aB 1 rfl<|aY ?_
    refine cV (a6 (k+1) (by first|omega|(dsimp only;omega)|(simp;omega)) aA ?_ ?_ ?_)
    · exact aF
    · exact aF
    · exact aC
   ·
    refine cS<|cU<|cU<|eH<|bP kh3<|aG fun kh9=>f_Q (aQ (vs:=[_,_]) Tryz.isAgg24 Tryz.sizeOf24 rfl rfl ⟨(rdA rfl),(rdA rfl),trivial⟩)<|f_Z (bS Tryz.sizeOf24 rfl rfl rfl rfl cG _ rfl ?_)
    refine aD kh9<|aZ ?_
    exact f_fin1c (vs:=[.int .i64 (n:Int),.slice A' l.length c']) [F] Tryz.results157 rfl Tryz.isAgg24 Tryz.sizeOf24 rfl ⟨(rdA rfl),(rdA rfl),trivial⟩ aC ⟨A',c',F,rfl,rfl,J⟩
theorem qLeaf_spec (n:Nat) (A:Option Addr) (l:List Arc) (cap:Nat) (Ab:Option Addr) (bs:List Int) (cb:Nat) (Y:Option Addr) (R:List Row) (cc:Nat) (c ep:Int) (B2:Option Addr) (len Z:Nat) (w:World) (hG:GN (Fr w []) w n A l Ab bs Y R) (O:clE (n:Int) l bs (bJ R) 1 c=0) (he:0≤ep∧ep≤1073741824) (X:Ro (Fr w []) w B2 (w32s (wtL l (gB (inP ((bJ R).getD 0 []) c) l)))) (ai:len=(gB (inP ((bJ R).getD 0 []) c) l).length):
    Meets Tryz.prog 121 [.agg #[.int .i64 (n:Int),.slice A l.length cap],.agg #[.slice Ab bs.length cb,.slice Y R.length cc],.int .i64 c,.int .i64 ep,.slice B2 len Z] w [] (fun u own' =>∃ D A' cap' m',u= .tuple #[.agg (gW ⟨1,c,ep,A',D,cap'⟩).toArray,.int .i64 0]∧own' =[m']∧Own 46 1 (.slice A' D.length cap') D.length (eT D) m'∧MatOk l ((bJ R).getD 0 []) c D):=by
 have aj:=hG
 obtain ⟨hr,hok,hn,J⟩:=aj
 obtain ⟨am,an,hlen,al⟩:=cF J.g
 have hl:l.length≤9223372036854775807:=aA
 have hN:I64 (n:Int):=by constructor<;>omega
 have ab:=J.len
 rw [eZ] at ab;have ag:=J.many
 subst ai;have ad:=k4 (inP ((bJ R).getD 0 []) c) l
 obtain ⟨arcs,ha⟩:∃ arcs,gB (inP ((bJ R).getD 0 []) c) l=arcs:=⟨_,rfl⟩
 have ac:ArcsIn l arcs:=by rw [← ha];exact mX _ _
 rw [ha] at X ad ⊢;refine bG Tryz.func121 rfl Tryz.ntmps121 rfl Owns.nil<|aG fun kh1=>f_S (cZ rfl rfl fun b5=>?_)
 refine f_S (cZ rfl rfl fun b6=>?_);refine f_S (cX Tryz.zeroValue138 rfl fun ao=>?_);refine aB 1 rfl<|aD kh1<|aG fun kh2=>f_Q (aQ (vs:=[_,_]) Tryz.isAgg24 Tryz.sizeOf24 rfl rfl ⟨(rdA rfl),(rdA rfl),trivial⟩)<|f_Q (aQ (vs:=[_,_]) Tryz.isAgg34 Tryz.sizeOf34 rfl rfl ⟨(rdA rfl),(rdA rfl),trivial⟩)<|aB 1 rfl ?_
 refine f_S (aW Tryz.call119 rfl (fun U F=>CInner_spec (n:Int) A l cap Ab bs cb Y R cc 1 c U (hr.up0 F) hl hN hok (hn.up0 F)) ?_);rintro _ _ ⟨M,AM,cM,mM,rfl,rfl,ak,_,ae⟩;obtain rfl:M=arcs:=(ae O).trans ha
 rw [O];dsimp only [aK,aJ];refine aB 5 rfl<|aD kh2<|aV fun kh3=>aS<|aG fun kh4=>aB 3 rfl<|aD kh4<|d4 rfl aO<|aG fun kh5=>aB 1 rfl ?_
 refine f_S (aW Tryz.call126 rfl (fun U F=>qF ep U he) ?_);rintro _ _ ⟨rfl,rfl⟩;dsimp only [aK,aJ];refine aB 2 rfl<|aD kh5<|h7 rfl<|aG fun kh6=>aB 1 rfl<|dY sl204 rfl<|aB 1 rfl<|dY bU rfl<|aB 2 rfl<|aD kh6 ?_
 refine d4 rfl aO<|dZ<|dI<|bP kh3<|aV fun kh7=>cQ [[(b5,blk [.int .i64 (n:Int),.slice A l.length cap] 24)],[(b6,blk [.slice Ab bs.length cb,.slice Y R.length cc] 34)]] rfl<|f_T 0 rfl (aQ (vs:=[_,_]) Tryz.isAgg24 Tryz.sizeOf24 rfl rfl ⟨(rdA rfl),(rdA rfl),trivial⟩)<|f_T 1 rfl (aR rfl)<|f_T 2 rfl (aR rfl)<|f_T 4 rfl (aQ (vs:=[_,_]) Tryz.isAgg34 Tryz.sizeOf34 rfl rfl ⟨(rdA rfl),(rdA rfl),trivial⟩) ?_
 refine f_T 5 rfl (aR rfl)<|f_T 6 rfl (aR rfl) ?_
 refine f_O 3 rfl (aW Tryz.call157 rfl (fun U F=>qweighed_spec n A l cap AM M M.length B2 Z U (hr.up0 F) hlen (fD (ak.seen F)) ac aA (X.up0 F)) ?_);rintro _ _ ⟨A',c',m',rfl,rfl,aa⟩;dsimp only [aK,aJ];refine ⟨aC,?_⟩;refine f_O 7 rfl (aW Tryz.call156 rfl (fun U F=>qwithin_spec n A' l c' Ab bs cb Y R cc 1 c ep U ⟨fD (aa.seen F),hok,hn.up0 F,J⟩ O) ?_);rintro _ _ ⟨D,A2,c2,m2,rfl,rfl,ah,hD⟩;dsimp only [aK,aJ];refine ⟨aC,?_⟩;refine f_T 8 rfl (eU rfl rfl)<|f_T 9 rfl (eU rfl rfl)<|fX 10 rfl (bS Tryz.sizeOf138 rfl rfl rfl rfl cG (gW ⟨1,c,ep,A2,D,c2⟩) rfl ⟨aC,?_⟩)
 refine f_O 11 rfl ((bI rfl).does ⟨aC,?_⟩);refine cO aU<|bP kh7<|aZ ?_
 exact gT (vs:=gW ⟨1,c,ep,A2,D,c2⟩) [m2] Tryz.results121 rfl Tryz.isAgg138 Tryz.sizeOf138 rfl ⟨(rdA rfl),(rdA rfl),(rdA rfl),(rdA rfl),trivial⟩ rfl aC ⟨D,A2,c2,m2,rfl,rfl,ah,hD⟩
theorem cl_zero {n:Nat} {l:List Arc} {bs:List Int} {L:List (List Int)} (h:NestOk n l bs L) {k v:Nat} (hk:k<bs.length) (hv:v<n) {q:Int} (hq:q=(k:Int)+1):clE (n:Int) l bs L q ((L.getD k []).getD v 0)=0:=by
 subst hq;have h1:lkE (n:Int) l bs L ((k:Int)+1)=0:=by unfold lkE;rw [if_neg (by rw [h.zero];simp),if_neg aA]
 have hl:=h.rowlen hk
 have hm:(L.getD k []).getD v 0∈L.getD k []:=by rw [eJ aA];exact List.getElem_mem _
 have h2:=e7 (h.right hk) h.n1.1 _ hm
 have h3:=iL hm
 unfold clE
 rw [if_neg (by rw [h1];simp),show (((k:Int)+1).toNat - 1)=k by omega,if_neg aA]
theorem bw_zero {n:Nat} {l:List Arc} {bs:List Int} {L:List (List Int)} {q c:Int} (hc:clE (n:Int) l bs L q c=0) (hq:q≠1):bwE (n:Int) l bs L q c=0∧chE (n:Int) l bs L q c=0:=by
 unfold bwE chE
 rw [if_neg (by rw [hc];simp),if_neg hq];exact ⟨rfl,rfl⟩
theorem ch_kids {n F:Nat} {L:List (List Int)} {q c:Int} (hq:q=(F:Int)+2) (hl:(L.getD (F+1) []).length=n):Kids n (L.getD F []) (L.getD (F+1) []) c (chL L q c):=by
 subst hq;have e1:(((F:Int)+2).toNat - 2)=F:=aA
 have e2:(((F:Int)+2).toNat - 1)=F+1:=aA
 have key:∀ x,x∈chL L ((F:Int)+2) c↔∃ v:Nat,v<n∧(L.getD (F+1) []).getD v 0=c∧(L.getD F []).getD v 0=x:=fun x=>by
  unfold chL
  rw [e1,e2,qY,(sortI_perm _).mem_iff,hl]
  unfold lowL
  rw [List.mem_map];constructor
  ·rintro ⟨y,hy,rfl⟩
   obtain ⟨v,rfl,h1,h2⟩:=memTo_mem.1 hy
   exact ⟨v,h1,h2,by rw [Int.toNat_natCast]⟩
  ·rintro ⟨v,h1,h2,rfl⟩
   exact ⟨(v:Int),memTo_mem.2 ⟨v,rfl,h1,h2⟩,by rw [Int.toNat_natCast]⟩
 exact ⟨fun v h1 h2=>(key _).2 ⟨v,h1,h2,rfl⟩,fun x hx=>(key x).1 hx⟩
structure KidM (S:Nat→Prop) (w:World) (l:List Arc) (Lb:List Int) (qb ep:Int) (kids:List Int) (Ms:List Mx):Prop where
 len:Ms.length=kids.length
 lv:∀ i (h:i<Ms.length),Ms[i].lv=qb∧0≤Ms[i].ep∧Ms[i].ep≤ep
 cl:∀ i (h:i<Ms.length) (h' :i<kids.length),Ms[i].cl=kids[i]
 mat:∀ i (h:i<Ms.length),MatOk l Lb Ms[i].cl Ms[i].D
 ro:∀ i (h:i<Ms.length),Ro S w Ms[i].A (eT Ms[i].D)
def kE (Lb:List Int) (l:List Arc) (Ms:List Mx):List Arc:=Ms.flatMap fun m=>mxE (bdL Lb m.cl l) m.D m.D.length
theorem kE_next {Lb:List Int} {l:List Arc} {Ms:List Mx} {i:Nat} (hi:i<Ms.length):kE Lb l (Ms.take (i+1))=kE Lb l (Ms.take i)++mxE (bdL Lb Ms[i].cl l) Ms[i].D Ms[i].D.length:=by
 unfold kE;rw [List.take_succ_eq_append_getElem hi,List.flatMap_append];simp
theorem mxE_len (B D:List Int):∀ k,(mxE B D k).length≤k
 |0=>by simp [mxE]
 |k+1=>by
  have:=mxE_len B D k
  rw [mxE_next,List.length_append]
  unfold mxA
  split<;>simp<;>omega
theorem kE_len {Lb:List Int} {l:List Arc}:∀ {Ms:List Mx},(∀ m∈Ms,m.D.length≤268435456)→(kE Lb l Ms).length≤Ms.length*268435456
 |[],_=>by simp [kE]
 |m::Ms,h=>by
  have h1:=kE_len (Lb:=Lb) (l:=l) (Ms:=Ms) fun x hx=>h x (List.mem_cons_of_mem _ hx)
  have h2:=mxE_len (bdL Lb m.cl l) m.D m.D.length
  have h3:=h m List.mem_cons_self
  unfold kE at*
  rw [List.flatMap_cons,List.length_append,List.length_cons];omega
def aE (l:List Arc) (arcs:List Int):List Arc:=arcs.map fun i=>l[i.toNat]?.getD ⟨0,0,0⟩
theorem aE_next {l:List Arc} {arcs:List Int} {k i:Nat} (hk:k<arcs.length) (hi:i<l.length) (e:arcs[k]=(i:Int)):aE l (arcs.take (k+1))=aE l (arcs.take k)++[l[i]]:=by
 unfold aE;rw [List.take_succ_eq_append_getElem hk,List.map_append];simp [e,hi]
theorem aE_len (l:List Arc) (arcs:List Int):(aE l arcs).length=arcs.length:=by simp [aE]
theorem aE_mem {l:List Arc} {p:Arc→Bool} {a:Arc}:a∈aE l (gB p l)↔a∈l∧p a=true:=by
 unfold aE
 rw [List.mem_map];constructor
 ·rintro ⟨x,hx,rfl⟩
  obtain ⟨i,hi,rfl,hp⟩:=idxs_mem hx
  rw [Int.toNat_natCast,List.getElem?_eq_getElem hi,Option.getD_some];exact ⟨List.getElem_mem _,hp⟩
 ·rintro ⟨h1,h2⟩
  obtain ⟨i,hi,rfl⟩:=List.mem_iff_getElem.1 h1
  refine ⟨(i:Int),?_,by rw [Int.toNat_natCast,List.getElem?_eq_getElem hi,Option.getD_some]⟩;have:=(idxs_in (p:=p) l.length (Nat.le_refl _) (i:Int)).2 ⟨i,hi,hi,rfl,h2⟩
  rwa [List.take_length] at this
theorem MatOk.lk {n:Nat} {l:List Arc} {L:List Int} {c:Int} {D:List Int} (hg:∀ k (hk:k<l.length),0≤l[k].src∧l[k].src<(n:Int)∧0≤l[k].dst∧l[k].dst<(n:Int)) (hw:∀ x∈l,0≤x.wt) (h:MatOk l L c D) {a:Arc} (ha:a∈mxE (bdL L c l) D D.length):(0≤a.src∧a.src<(n:Int))∧(0≤a.dst∧a.dst<(n:Int))∧0≤a.wt∧a.wt≤INF:=by
 obtain ⟨h1,h2,h3,F⟩:=h.arc ha
 exact ⟨nA hg h1,nA hg h2,F.nonneg hw,Int.le_of_lt h3⟩
theorem up_e {S:Nat→Prop} {w:World} {l:List Arc} {Lb L:List Int} {c J ep:Int} {kids:List Int} {Ms:List Mx} (h:KidM S w l Lb J ep kids Ms):UpE l Lb L c kids (kE Lb l Ms++aE l (gB (btP L Lb c) l)) where
 src a ha:=by
  rcases List.mem_append.1 ha with ha|ha
  ·left
   unfold kE at ha
   obtain ⟨m,hm,ha⟩:=List.mem_flatMap.1 ha
   obtain ⟨i,hi,rfl⟩:=List.mem_iff_getElem.1 hm
   have hl:=h.len
   have hc:=h.cl i hi aA
   have F:=h.mat i hi
   refine ⟨kids[i]'aA, List.getElem_mem _, ?_⟩;rw [← hc]; exact F.arc ha
  ·exact .inr (aE_mem.1 ha)
 mat k hk x y m hx hy hw hlt:=by
  obtain ⟨i,hi,rfl⟩:=List.mem_iff_getElem.1 hk
  have hl:=h.len
  have hc:=h.cl i aA hi
  have F:=h.mat i aA
  rw [← hc] at hx hy hw;obtain ⟨a,ha,h1⟩:=F.over hx hy hw hlt
  exact ⟨a,List.mem_append_left _ (by unfold kE;exact List.mem_flatMap.2 ⟨_,List.getElem_mem _,ha⟩),h1⟩
 btw a ha hb:=List.mem_append_right _ (aE_mem.2 ⟨ha,hb⟩)
theorem tc_none {T:List (Option Int)} (h:¬ (kJ T:Int)>0):topR T=none:=topR_none aA
theorem tc_some {T:List (Option Int)} (h:(kJ T:Int)>0):∃ v a,topR T=some (v,a):=by
 cases e:topR T with
 |none=>have:=jY e;omega
 |some q=>exact ⟨q.1,q.2,rfl⟩
theorem spread_spec (n:Nat) (bw:1≤n∧n≤1024) (E:List Arc) (hE:LkOk n E) (bv:E.length≤281474976710656) (ents:List (Int×Value×Nat)) (c1 Z:Nat) (vs:List Value) (ms:List Seg) (hL:LinkR 260 n E ents vs ms) (s:Nat) (hs:s<n) (w:World) (hw:Owns w [[(Z,e9 iO ents c1)],ms.flatten]):
    Meets Tryz.prog 160 [.int .i64 (n:Int),.map (some Z),.int .i64 (s:Int)] w [[(Z,e9 iO ents c1)],ms.flatten] (fun u own' =>∃ D bd,u= .slice (some ⟨bd,0,none⟩) n n∧own' =[[(Z,e9 iO ents c1)],ms.flatten,[(bd,blk (eT D) 46)]]∧IsD n E iM s D):=by
 have ar:=hE.wt
 have au:=hE.dst
 refine bG Tryz.func160 rfl Tryz.ntmps160 rfl hw<|aG fun kh1=>aB 1 rfl<|aD kh1<|aG fun kh2=>f_S (bX qV aA rfl rfl rfl fun ai=>?_)
 refine aB 1 rfl ?_;refine f_S (aW Tryz.call26 rfl (fun w_ hp_=>i7 ai 0 1 n 18446744073709551615 w_ (fK (b:=ai) hp_ (cs:=[.int .u64 18446744073709551615]) (fun j v hj=>hj)) aA) ?_);rintro _ _ ⟨bd,rfl,rfl⟩;dsimp only [aK,aJ];refine aB 1 rfl<|aD kh2<|aG fun kh3=>aB 1 rfl ?_
 refine f_S (aW Tryz.call64 rfl (fun w_ hp_=>New_spec (n:Int) w_) ?_);rintro _ _ hN;rw [NewΦ,if_neg aA,Int.toNat_natCast] at hN;obtain ⟨bH,ah,rfl,rfl,bg⟩:=hN
 dsimp only [aK,aJ];refine aB 5 rfl<|aD kh3<|aG fun kh4=>aB 2 rfl<|f_Q (aM j6 rfl rfl (s))<|f_Z (bQ Tryz.sizeOf46 rfl rfl rfl rfl (by rw [List.length_replicate];omega) (eT (D0 n s)) (by rw [u64s_rep];exact o5 _ _ _) ?_)
 refine aD kh4<|aG fun kh5=>aB 2 rfl ?_
 refine f_S (d5 [ah] _ Tryz.call65 rfl (aL Sub.refl) (fun w_ hp_=>lO (List.replicate n none) bH ah (s:Int) 0 w_ bg hp_.owns) ?_);rintro _ _ ⟨rfl,hm2,rfl,av⟩;rw [looks_new hs] at av;dsimp only [aK,aJ];refine aD kh5<|aV fun kh6=>aS ?_
 refine dF (α:=List Int×List Int×List (Option Int)×List Nat×Seg) [1,7,8] (fun ⟨d,by_,T,o,hm⟩=>[]) (fun ⟨d,by_,T,o,hm⟩=>[[(Z,e9 iO ents c1)],ms.flatten,[(bd,blk (eT d) 46)],hm]) (fun ⟨d,by_,T,o,hm⟩=>SS n E mO s d by_ T o (RF E o)∧HRep T bH hm) (fun ⟨d,by_,T,o,hm⟩=>free n o) (D0 n s,B0 n,T0 n s,[],hm2) ?_ ?_ ?_ ?_
 ·exact aF
 ·exact aC
 ·exact ⟨jX hs,av⟩
 ·rintro ⟨d,by_,T,o,hm⟩ ⟨aq,hH⟩;refine aV fun a1=>aG fun kh8=>aB 1 rfl ?_;refine f_S (d5 [hm] _ Tryz.call175 rfl (by repeat (first|exact Sub.refl|refine aL ?_)) (fun w_ hp_=>Len_spec T bH hm w_ hH hp_.owns) ?_);rintro _ _ ⟨rfl,rfl⟩;dsimp only [aK,aJ];refine aB 1 rfl<|aD kh8<|aX rfl (fun c32=>?_) (fun c32=>?_)
  ·obtain ⟨v,a,ht⟩:=tc_some (T:=T) (by simpa using c32)
   obtain ⟨al,ad,ay,bj,hai,be⟩:=NX.start aq ht
   have aa:=lL ad ay
   refine bZ a1<|aS<|aG fun kh9=>aB 1 rfl ?_
   refine f_S (d5 [hm] _ Tryz.call67 rfl (by repeat (first|exact Sub.refl|refine aL ?_)) (fun w_ hp_=>HPop_spec T bH hm w_ hH hp_.owns) ?_);rintro _ _ ⟨rfl,bh,rfl,aw⟩;rw [lE ht];rw [popT_some ht] at aw;dsimp only [aK,aJ];refine aB 7 rfl<|aD kh9<|aV fun kh10=>?_
   obtain ⟨val,rm,rG,am,ap,ag,_⟩:=hL.split ad
   have bB:=outs_len E v
   have bk:(eR E v).length≤E.length:=by unfold eR;rw [kS];exact List.countP_le_length
   obtain ⟨Ar,cr,rfl,bp⟩:=ap.val
   refine eP (Sub.splitF ag)<|aI<|aB 2 rfl<|f_Q (fG kt257 Tryz.zeroValue258 rfl rfl rfl _ am)<|dY sl258 rfl<|aB 1 rfl<|aD kh10<|aS ?_
   refine dF (α:=Nat×List Int×List Int×List (Option Int)×Seg) [1,7,8,11,41,42] (fun ⟨j,X,J,U,F⟩=>[(43,.int .i64 (j:Int))]) (fun ⟨j,X,J,U,F⟩=>[[(bd,blk (eT X) 46)],F,[(Z,e9 iO ents c1)],rm,rG]) (fun ⟨j,X,J,U,F⟩=>j≤(hZ E v).length∧NX n E mO s d v a o j X J U∧HRep U bH F) (fun ⟨j,X,J,U,F⟩=>(hZ E v).length - j) (0,d,by_,T.set v none,bh) ?_ ?_ ?_ ?_
   ·exact aF
   ·exact aC
   ·exact ⟨Nat.zero_le _,al,aw⟩
   ·rintro ⟨j,X,J,U,F⟩ ⟨bq,O,ab⟩;refine fJ (e:=[(43,_),(1,_),(7,_),(8,_),(11,_),(41,_),(42,_)]) aF ?_;refine aG fun kh11=>aB 1 rfl<|aD kh11<|aV fun kh12=>aX rfl (fun bf=>?_) (fun bf=>?_)
    ·have hj:j<(hZ E v).length:=aA
     obtain ⟨i,hi,ax,ak,Y,ba⟩:=outs_at hj
     have bi:=hE _ (List.getElem_mem hi)
     obtain ⟨u,hu,aj⟩:∃ u:Nat,E[i].dst=(u:Int)∧u<n:=⟨E[i].dst.toNat,aA,aA⟩
     have hud:E[i].dst.toNat=u:=aA
     obtain ⟨br,bt,rfl,rfl⟩:=ap.at_ aA
     refine bZ kh12<|aV fun kh13=>aS<|aG fun kh14=>f_Q (aM sl258 rfl rfl (j*2))<|f_Q (aQ (vs:=lkCs E[i]) Tryz.isAgg260 Tryz.sizeOf260 rfl rfl (by rw [← ba];exact jR lkCs_len hj)) ?_
     refine f_S (cX Tryz.zeroValue260 rfl fun bu=>?_);refine f_Z (bS Tryz.sizeOf260 rfl rfl rfl rfl cG (lkCs E[i]) rfl ?_);refine aD kh14<|aG fun kh15=>aB 1 rfl<|cN fa260_1 rfl<|c7 Tryz.isAgg46 rfl (rdA rfl) ?_
     refine f_S (aW Tryz.call31 rfl (fun w_ hp_=>i9 a E[i].wt w_ ⟨be,Int.le_of_lt hai⟩ bi.2.2) ?_);rintro _ _ ⟨rfl,rfl⟩;dsimp only [aK,aJ];refine aB 1 rfl<|aD kh15<|aG fun kh16=>aB 2 rfl<|cN fa260_0 rfl<|c7 Tryz.isAgg3 rfl (rdA rfl)<|f_Q (aM j6 rfl rfl (u))<|f_Q (aH Tryz.isAgg46 rfl (rdA (iE (mF (by rw [O.ss.ld];exact aj))))) ?_
     refine aB 1 rfl<|aD kh16<|aX rfl (fun c57=>?_) (fun c57=>?_)
     ·have az:=(O.ss.rng u aj).2
      have a2:=dadd_lt c57 az
      obtain ⟨ac,ae⟩:=O.relax ar au ax hi ak Y rfl hud (m:=fU a E[i].wt) a2 c57
      refine aG fun ao=>aB 1 rfl<|cN fa260_0 rfl<|c7 Tryz.isAgg3 rfl (rdA rfl)<|aB 1 rfl<|f_Q (aM j6 rfl rfl (u))<|f_Z (bQ Tryz.sizeOf46 rfl rfl rfl rfl (by rw [iJ,O.ss.ld];omega) (eT (X.set u (fU a E[i].wt))) (o5 _ _ _) ?_)
      refine aD ao<|aI<|aB 1 rfl<|cN fa260_0 rfl<|c7 Tryz.isAgg3 rfl (rdA rfl)<|aB 1 rfl ?_
      refine f_S (d5 [F] _ Tryz.call65 rfl (by repeat (first|exact Sub.refl|refine aL ?_)) (fun w_ hp_=>(by have h:=lO U bH F (u:Int) (fU a E[i].wt) w_ ab hp_.owns;rw [← hu] at h;exact h)) ?_);rintro _ _ ⟨rfl,bc,rfl,an⟩;rw [hu,ae] at an;dsimp only [aK,aJ];refine aY<|dI<|bP kh13<|aI<|f_Q (bF rfl rfl)<|aB 1 rfl<|aY ?_
      refine cV (a6 (j+1,X.set u (fU a E[i].wt),J.set u (i:Int),U.set u (some (fU a E[i].wt)),bc) (by first|omega|(dsimp only;omega)|(simp;omega)) ⟨aA,ac,an⟩ ?_ ?_ ?_)
      ·exact aF
      ·exact aF
      ·exact aC
     ·refine dZ<|dI<|bP kh13<|aI<|f_Q (bF rfl rfl)<|aB 1 rfl<|aY ?_
      refine cV (a6 (j+1,X,J,U,F) (by first|omega|(dsimp only;omega)|(simp;omega)) ⟨aA,O.skipQ ax hi ak Y hud c57,ab⟩ ?_ ?_ ?_)
      ·exact aF
      ·exact aF
      ·exact aC
    ·refine cS<|cU<|cU<|eH<|dI<|gN (Sub.joinF (m:=rm) (G' :=rG) ag.symm) ?_
     refine cV (a6 (X,J,U,v::o,F) aa ⟨O.done aA,ab⟩ ?_ ?_ ?_)
     ·exact aF
     ·exact aF
     ·exact aC
  ·refine cS<|cU<|cU<|eH<|bP kh6<|aG fun kh18=>aB 2 rfl<|aD kh18<|aZ ?_
   exact bO [[(Z,e9 iO ents c1)],ms.flatten,[(bd,blk (eT d) 46)]] Tryz.results160 rfl aC ⟨d,bd,rfl,rfl,aq.done (tc_none (by simpa using c32)) hE.src hE.dst hE.wt⟩
theorem Up_spec (n:Nat) (A:Option Addr) (l:List Arc) (cap:Nat) (Ab:Option Addr) (bs:List Int) (cb:Nat) (Ac:Option Addr) (R:List Row) (cc:Nat) (q c ep:Int) (k1:Nat) (B2:Option Addr) (len c8:Nat) (Bk:Option Addr) (Ms:List Mx) (ck:Nat) (w:World) (hG:GN (Fr w []) w n A l Ab bs Ac R) (hq:q=(k1:Int)+2) (bi:clE (n:Int) l bs (bJ R) q c=0) (he:0≤ep∧ep≤1073741824) (b3:Ro (Fr w []) w B2 (w32s (wtL l (gB (btP ((bJ R).getD (k1+1) []) ((bJ R).getD k1 []) c) l)))) (c4:len=(gB (btP ((bJ R).getD (k1+1) []) ((bJ R).getD k1 []) c) l).length)
    (hK:KidM (Fr w []) w l ((bJ R).getD k1 []) (q - 1) ep (chL (bJ R) q c) Ms) (dj:Ro (Fr w []) w Bk (Ms.flatMap gW)):
    Meets Tryz.prog 124 [.agg #[.int .i64 (n:Int),.slice A l.length cap],.agg #[.slice Ab bs.length cb,.slice Ac R.length cc],.int .i64 q,.int .i64 c,.int .i64 ep,.slice B2 len c8,.slice Bk Ms.length ck] w [] (fun u own' =>∃ D A' cap' m',u= .tuple #[.agg (gW ⟨q,c,ep,A',D,cap'⟩).toArray,.int .i64 0]∧own' =[m']∧Own 46 1 (.slice A' D.length cap') D.length (eT D) m'∧MatOk l ((bJ R).getD (k1+1) []) c D):=by
 have dw:=hG
 obtain ⟨hr,hok,hn,am⟩:=dw
 obtain ⟨el,eo,hlen,aq⟩:=cF am.g
 have hl:l.length≤9223372036854775807:=aA
 have hN:I64 (n:Int):=by constructor<;>omega
 have dc:=am.len
 rw [eZ] at dc;have c3:=am.many
 obtain ⟨n',k,j0,em,_,ek,ce,et,en⟩:=kD bi
 obtain rfl:n=n' :=aA
 obtain rfl:k=k1+1:=aA
 obtain ⟨cR,bE⟩:=bw_zero bi aA
 subst c4;have cq:=am.rowlen (k:=k1+1) ce
 have bu:=am.rowlen (k:=k1) aA
 have bp:=am.within ce aA
 rw [show k1+1 - 1=k1 by omega] at bp;have Y:=ch_kids (c:=c) hq cq
 have bh:∀ x∈l,0≤x.wt:=fun x hx=>(hok x hx).wt.1
 have bC:∀ x∈l,x.wt≤4294967295:=fun x hx=>(hok x hx).wt.2
 have bv:∀ x∈chL (bJ R) q c,clE (n:Int) l bs (bJ R) (q - 1) x=0:=fun x hx=>by
   obtain ⟨v,h1,_,h2⟩:=Y.has x hx
   rw [← h2];exact cl_zero am (k:=k1) aA h1 aA
 obtain ⟨kids,b1⟩:∃ kids,chL (bJ R) q c=kids:=⟨_,rfl⟩
 have ea:kids.length≤1024:=by
   rw [← b1];unfold chL
   refine Nat.le_trans (lN _) ?_;rw [fP,lowL_len,show q.toNat - 1=k1+1 by omega];refine Nat.le_trans (pO _ _ _) ?_;omega
 rw [b1] at hK Y bv;obtain ⟨Lb,be⟩:∃ Lb,(bJ R).getD k1 []=Lb:=⟨_,rfl⟩
 obtain ⟨L,br⟩:∃ L,(bJ R).getD (k1+1) []=L:=⟨_,rfl⟩
 rw [be] at hK Y bu bp;rw [br] at Y cq bp;rw [be,br] at b3 ⊢;have dq:=k4 (btP L Lb c) l
 have cI:ArcsIn l (gB (btP L Lb c) l):=mX _ _
 have bW:=up_e (L:=L) (c:=c) hK
 obtain ⟨arcs,ha⟩:∃ arcs,gB (btP L Lb c) l=arcs:=⟨_,rfl⟩
 rw [ha] at b3 dq cI bW ⊢;have ey:=hK.len
 have bt:∀ m∈Ms,m.D.length≤268435456:=fun m hm=>by
   obtain ⟨i,hi,rfl⟩:=List.mem_iff_getElem.1 hm
   have h1:=nX Lb Ms[i].cl l
   rw [(hK.mat i hi).len];exact Nat.le_trans (Nat.mul_le_mul (show _≤16384 by omega) (show _≤16384 by omega)) (by decide)
 refine bG Tryz.func124 rfl Tryz.ntmps124 rfl Owns.nil<|aG fun kh1=>f_S (cZ rfl rfl fun b7=>?_)
 refine f_S (cZ rfl rfl fun b8=>?_);refine f_S (cX Tryz.zeroValue138 rfl fun aw=>?_);refine aB 1 rfl<|aD kh1<|aG fun kh2=>f_Q (aQ (vs:=[_,_]) Tryz.isAgg24 Tryz.sizeOf24 rfl rfl ⟨(rdA rfl),(rdA rfl),trivial⟩)<|f_Q (aQ (vs:=[_,_]) Tryz.isAgg34 Tryz.sizeOf34 rfl rfl ⟨(rdA rfl),(rdA rfl),trivial⟩)<|aB 2 rfl ?_
 refine f_S (aW Tryz.call122 rfl (fun w_ hp_=>CBetween_spec (n:Int) A l cap Ab bs cb Ac R cc q c w_ (hr.up0 hp_) hl hN hok (hn.up0 hp_)) ?_);rintro _ _ ⟨M,AM,cM,mM,rfl,rfl,dm,_,dr⟩;obtain rfl:M=arcs:=by rw [dr cR,show q.toNat - 1=k1+1 by omega,show q.toNat - 2=k1 by omega,be,br,ha]
 rw [cR];dsimp only [aK,aJ];refine aB 5 rfl<|aD kh2<|aV fun kh3=>aS<|aG fun kh4=>aB 3 rfl<|aD kh4<|d4 rfl aO<|aG fun kh5=>aB 1 rfl ?_
 refine f_S (aW Tryz.call126 rfl (fun w_ hp_=>qF ep w_ he) ?_);rintro _ _ ⟨rfl,rfl⟩;dsimp only [aK,aJ];refine aB 2 rfl<|aD kh5<|h7 rfl<|aG fun kh6=>aB 1 rfl<|dY sl204 rfl<|aB 1 rfl<|dY bU rfl<|aB 2 rfl<|aD kh6 ?_
 refine d4 rfl aO<|dZ<|dI<|bP kh3<|aG fun kh7=>f_Q (aQ (vs:=[_,_]) Tryz.isAgg24 Tryz.sizeOf24 rfl rfl ⟨(rdA rfl),(rdA rfl),trivial⟩)<|f_Q (aQ (vs:=[_,_]) Tryz.isAgg34 Tryz.sizeOf34 rfl rfl ⟨(rdA rfl),(rdA rfl),trivial⟩)<|aB 2 rfl ?_
 refine f_S (aW Tryz.call123 rfl (fun w_ hp_=>NChildren_spec (n:Int) A l cap Ab bs cb Ac R cc q c w_ (hr.up0 hp_) hl hN hok (hn.up0 hp_)) ?_);rintro _ _ ⟨K',AK,cK,mK,rfl,rfl,dT,_,df⟩;obtain rfl:K' =kids:=(df bE).trans b1
 rw [bE];dsimp only [aK,aJ];refine aB 5 rfl<|aD kh7<|aV fun kh8=>aG fun kh9=>aB 2 rfl<|aD kh9<|d4 rfl aO<|bZ kh8<|aV fun kh10=>aG fun kh11=>?_
 refine aB 1 rfl<|dY sl141 rfl<|aB 1 rfl<|dY bU rfl<|aB 1 rfl<|aD kh11<|d4 rfl aA<|bZ kh10<|aG fun kh12=>f_S (iY fun ao=>?_)
 refine aB 1 rfl<|aD kh12<|aV fun kh13=>aG fun cP=>aB 1 rfl<|dY sl141 rfl<|aB 1 rfl<|aD cP<|aS ?_
 refine dF (α:=Nat×List (Int×Value×Nat)×Nat×List Value×List Seg) [2,3,4,5,7,8,14,16,18,19,81,82] (fun ⟨i,ents,J,vs,ms⟩=>[(83,.int .i64 (i:Int))]) (fun ⟨i,ents,J,vs,ms⟩=>[[(ao,e9 iO ents J)],ms.flatten,mM,mK,[(b7,blk [.int .i64 (n:Int),.slice A l.length cap] 24)],[(b8,blk [.slice Ab bs.length cb,.slice Ac R.length cc] 34)],[(aw,blk [.int .i64 0,.int .i64 0,.int .i64 0,.slice none 0 0] 138)]]) (fun ⟨i,ents,J,vs,ms⟩=>i≤Ms.length∧LinkR 260 n (kE Lb l (Ms.take i)) ents vs ms) (fun ⟨i,ents,J,vs,ms⟩=>Ms.length - i) (0,[],0,List.replicate n (.slice none 0 0),List.replicate n []) ?_ ?_ ?_ ?_
 · exact aF
 · dsimp only
   rw [show (List.replicate n ([]:Seg)).flatten=[] from by simp];exact aC
 · exact ⟨Nat.zero_le _,LinkR.start _ _⟩
 ·
  rintro ⟨i,ents,J,vs,ms⟩ ⟨cy,hL⟩;refine aG fun kh15=>aB 1 rfl<|aD kh15<|aV fun kh16=>aX rfl (fun dt=>?_) (fun dt=>?_)
  ·
   have hi:i<Ms.length:=aA
   have b5:i<K'.length:=aA
   have az:=hK.lv i hi
   have b4:=hK.cl i hi b5
   have bq:=hK.mat i hi
   have bY:=hK.ro i hi
   have bj:=kE_next (Lb:=Lb) (l:=l) hi
   have a2:=kE_len (Lb:=Lb) (l:=l) (Ms:=Ms.take i) fun m hm=>bt m (List.mem_of_mem_take hm)
   rw [List.length_take] at a2;have bR:=bt _ (List.getElem_mem hi)
   obtain ⟨bk,dn,rfl,du,dh⟩:=dj (fH gW kC aA hi)
   obtain ⟨x,hx⟩:∃ x,Ms[i]=x:=⟨_,rfl⟩
   rw [hx] at az b4 bq bY bj bR;obtain ⟨lv,cl,ay,AD,D,cD⟩:=x
   dsimp only at az b4 bq bY bj bR;obtain ⟨rfl,c5,ex⟩:=az
   have bg:=bv _ (List.getElem_mem b5)
   rw [← b4] at bg;obtain ⟨bK,ds,rfl,rfl⟩:=dT.at_ aA
   obtain ⟨B,hB⟩:∃ B,bdL Lb cl l=B:=⟨_,rfl⟩
   have ba:=fun (v:Int) (h:v∈bdL Lb cl l)=>nA (n:=n) aq h
   have cg:=bq.len
   rw [hB] at ba bj cg;refine bZ kh16<|aV fun kh17=>aS<|aG fun kh18=>aB 1 rfl<|f_Q (aM sl141 rfl rfl (dn+i*4))<|f_Q (aQ (vs:=[.int .i64 (q - 1),.int .i64 cl,.int .i64 ay,.slice AD D.length cD]) Tryz.isAgg138 Tryz.sizeOf138 rfl rfl (show Rds _ _ _ _ _ (gW ⟨q - 1,cl,ay,AD,D,cD⟩) by rw [← hx];exact gV kC du dh hi)) ?_
   refine f_S (cX Tryz.zeroValue138 rfl fun ez=>?_);refine aB 1 rfl<|f_Z (bS Tryz.sizeOf138 rfl rfl rfl rfl cG [.int .i64 (q - 1),.int .i64 cl,.int .i64 ay,.slice AD D.length cD] rfl ?_)
   refine aD kh18<|aV fun kh19=>aV fun kh20=>gG 24 rfl aU<|dG (aT fa138_0 rfl)<|gH Tryz.isAgg3 rfl (rdA rfl)<|dN 1 rfl<|dG (jK rfl rfl)<|dN 2 rfl<|f_falseS 93 rfl aO ?_
   refine dR rfl rfl rfl rfl rfl (aT fa138_1 rfl)<|dR rfl rfl rfl rfl rfl (aH Tryz.isAgg3 rfl (rdA rfl))<|dN 2 rfl<|dR rfl rfl rfl rfl rfl (aM bU rfl rfl (i))<|dR rfl rfl rfl rfl rfl (aH Tryz.isAgg3 rfl (rdA (d7 (d9 b5))))<|dN 3 rfl<|f_falseS 102 rfl aA<|dR rfl rfl rfl rfl rfl (aT fa138_2 rfl)<|dR rfl rfl rfl rfl rfl (aH Tryz.isAgg3 rfl (rdA rfl))<|dN 4 rfl ?_
   refine f_falseS 108 rfl aA<|dR rfl rfl rfl rfl rfl (aQ (vs:=[_,_]) Tryz.isAgg24 Tryz.sizeOf24 rfl rfl ⟨(rdA rfl),(rdA rfl),trivial⟩)<|dR rfl rfl rfl rfl rfl (aQ (vs:=[_,_]) Tryz.isAgg34 Tryz.sizeOf34 rfl rfl ⟨(rdA rfl),(rdA rfl),trivial⟩)<|dR rfl rfl rfl rfl rfl (aQ (vs:=[_,_,_,_]) Tryz.isAgg138 Tryz.sizeOf138 rfl rfl ⟨(rdA rfl),(rdA rfl),(rdA rfl),(rdA rfl),trivial⟩)<|eK (i3 ?_)
   refine k9 rfl rfl rfl rfl rfl (aW Tryz.call74 rfl (fun w_ hp_=>qCheck_spec n A l cap Ab bs cb Ac R cc ⟨q - 1,cl,ay,AD,D,cD⟩ w_ (hG.up0 hp_) bg ⟨c5,by show ay≤_;omega⟩ (by have h:=bq.len;dsimp only;rw [show (q - 1).toNat - 1=k1 by omega,be];exact h)) ?_);rintro _ _ ⟨rfl,rfl⟩;dsimp only [aK,aJ];refine aB 2 rfl<|aD kh20<|d4 rfl aO<|bZ kh19<|aG fun kh21=>f_Q (aQ (vs:=[_,_]) Tryz.isAgg24 Tryz.sizeOf24 rfl rfl ⟨(rdA rfl),(rdA rfl),trivial⟩)<|f_Q (aQ (vs:=[_,_]) Tryz.isAgg34 Tryz.sizeOf34 rfl rfl ⟨(rdA rfl),(rdA rfl),trivial⟩)<|aB 1 rfl<|f_Q (jK rfl rfl)<|cN fa138_1 rfl ?_
   refine c7 Tryz.isAgg3 rfl (rdA rfl) ?_;refine f_S (aW Tryz.call9 rfl (fun w_ hp_=>i8 (n:Int) A l cap Ab bs cb Ac R cc (q - 1) cl w_ (hr.up0 hp_) hl hN hok (hn.up0 hp_)) ?_);rintro _ _ ⟨B',AB,cB,mB,rfl,rfl,dk,_,dz⟩;obtain rfl:B' =B:=by rw [dz bg,show (q - 1).toNat - 1=k1 by omega,be,hB]
   rw [bg];dsimp only [aK,aJ];refine aB 5 rfl<|aD kh21<|aV fun kh22=>aG fun kh23=>aB 2 rfl<|aD kh23<|d4 rfl aO<|bZ kh22<|aG fun kh24=>cN k8 rfl ?_
   refine c7 Tryz.isAgg41 rfl (rdA rfl)<|dY j6 rfl<|aB 1 rfl<|aD kh24<|aS ?_
   refine dF (α:=Nat×List (Int×Value×Nat)×Nat×List Value×List Seg) [2,3,4,5,7,8,14,16,18,19,22,81,82,83,131,132] (fun ⟨j,ents,J,vs,ms⟩=>[(133,.int .i64 (j:Int))]) (fun ⟨j,ents,J,vs,ms⟩=>[[(ao,e9 iO ents J)],ms.flatten,mM,[(bK,blk (a8 K' ++ds) 3)],mB,[(b7,blk [.int .i64 (n:Int),.slice A l.length cap] 24)],[(b8,blk [.slice Ab bs.length cb,.slice Ac R.length cc] 34)],[(aw,blk [.int .i64 0,.int .i64 0,.int .i64 0,.slice none 0 0] 138)]]) (fun ⟨j,ents,J,vs,ms⟩=>j≤D.length∧LinkR 260 n (kE Lb l (Ms.take i)++mxE B' D j) ents vs ms) (fun ⟨j,ents,J,vs,ms⟩=>D.length - j) (0,ents,J,vs,ms) ?_ ?_ ?_ ?_
   · exact aF
   · exact aC
   · exact ⟨Nat.zero_le _,by rw [show mxE B' D 0=[] from rfl,List.append_nil];exact hL⟩
   ·
    rintro ⟨j,ents,J,vs,ms⟩ ⟨c6,hL⟩;refine fJ (e:=[(133,_),(2,_),(3,_),(4,_),(5,_),(7,_),(8,_),(14,_),(16,_),(18,_),(19,_),(22,_),(81,_),(82,_),(83,_),(131,_),(132,_)]) aF ?_;refine aG fun kh25=>aB 1 rfl<|aD kh25<|aV fun kh26=>aX rfl (fun cJ=>?_) (fun cJ=>?_)
    ·
     have hj:j<D.length:=aA
     obtain ⟨ax,av,_⟩:=sq_div (cg▸hj)
     have di:=Nat.div_le_self j B'.length
     obtain ⟨jq,b6⟩:∃ q,j / B'.length=q:=⟨_,rfl⟩
     obtain ⟨jr,b9⟩:∃ q,j % B'.length=q:=⟨_,rfl⟩
     rw [b6] at ax di;rw [b9] at av;obtain ⟨bD,oD,rfl,da,cd⟩:=bY (fun e=>by have:=iJ D;rw [e] at this;simp at this;omega)
     obtain ⟨v,hv,au⟩:∃ v:Nat,B'[jq]=(v:Int)∧v<n:=⟨B'[jq].toNat,by have:=ba _ (List.getElem_mem ax);omega,by have:=ba _ (List.getElem_mem ax);omega⟩
     obtain ⟨u,hu,db⟩:∃ u:Nat,B'[jr]=(u:Int)∧u<n:=⟨B'[jr].toNat,by have:=ba _ (List.getElem_mem av);omega,by have:=ba _ (List.getElem_mem av);omega⟩
     obtain ⟨bB,bf,rfl,rfl⟩:=dk.at_ aA
     have Z:=mxE_next B' D j
     have ee:=mxE_len B' D j
     refine bZ kh26<|aV fun kh27=>aS<|aG fun kh28=>aB 1 rfl<|f_Q (aM j6 rfl rfl (oD+j))<|f_Q (aH Tryz.isAgg46 rfl (show Rd _ _ _ _ _ (.int .u64 (dg D j)) by rw [dg_eq hj];exact eC (enc:=(.int .u64 ·)) da cd hj)) ?_
     refine aB 2 rfl<|aD kh28<|aG fun kh29=>aB 2 rfl<|aD kh29<|aX rfl (fun c139=>?_) (fun c139=>?_)
     ·
      have bM:mxA B' D j=[⟨(v:Int),(u:Int),dg D j⟩]:=by unfold mxA;rw [if_pos c139,b6,b9,eJ ax,eJ av,hv,hu]
      rw [bM] at Z;refine aG fun cC=>aB 3 rfl<|dY bU rfl<|f_Q (o_quo rfl rfl aA ((jq:Nat):Int) (by rw [tdiv_nat,b6];exact wrap_q aA)) ?_
      refine f_Q (aM bU rfl rfl (jq))<|f_Q (aH Tryz.isAgg3 rfl (rdA (v:= .int .i64 (v:Int)) (d7 (by rw [d9 ax,hv])))) ?_;refine aB 1 rfl<|aD cC ?_
      obtain ⟨val,rm,rG,ai,ap,bL,U⟩:=hL.split au
      have ab:=outs_le (kE Lb l (Ms.take i)++mxE B' D j) v
      obtain ⟨Ar,cr,rfl,cY⟩:=ap.val
      refine eP (Sub.splitF bL)<|cQ [[(bB,blk (a8 B' ++bf) 3)]] rfl<|f_T 0 rfl (aR rfl)<|f_T 1 rfl (aR rfl)<|f_T 2 rfl (aR rfl)<|f_T 3 rfl (aR rfl)<|f_T 5 rfl (aR rfl)<|f_T 6 rfl (aR rfl)<|f_T 7 rfl (aR rfl)<|f_T 8 rfl (iZ bU rfl) ?_;refine f_T 9 rfl (o_rem rfl rfl aA ((jr:Nat):Int) (by rw [tmod_nat,b9])) ?_;refine f_T 10 rfl (aM bU rfl rfl (jr))<|f_T 11 rfl (aH Tryz.isAgg3 rfl (rdA (v:= .int .i64 (u:Int)) (d7 (by rw [d9 av,hu])))) ?_
      refine f_T 12 rfl (aR rfl)<|f_T 13 rfl (dU st260 rfl rfl)<|gD 4 14 rfl rfl aU rfl rfl rfl rfl rfl rfl ?_ ?_
      ·
       refine (fG kt257 Tryz.zeroValue258 rfl rfl rfl _ ai).does ⟨aC,?_⟩;refine f_O 14 rfl (bX el258 aA rfl rfl rfl fun cT=>⟨aC,?_⟩);refine f_O 15 rfl (dJ el258 rfl rfl ap (ys:=[.int .i64 (u:Int),.int .u64 (dg D j)]) ⟨(rdA rfl),(rdA rfl),trivial⟩ rfl rfl (by rw [List.length_append] at ab;omega) (by rw [List.length_append] at ab;omega) fun ac ae ak=>⟨aC,?_⟩);refine fX 16 rfl (fB kt257 rfl rfl rfl rfl ⟨aC,?_⟩);refine cO aU<|dI<|bP kh27<|aI<|f_Q (bF rfl rfl)<|aB 1 rfl<|aY<|gN (Sub.joinF (m:=ae) (G' :=rG) (U ⟨(v:Int),(u:Int),dg D j⟩ _ _ J (Int.toNat_natCast v) ak).2) ?_
       refine cV (a6 (j+1,fW ents (v:Int) ac J,fM ents (v:Int) J,vs.set v ac,ms.set v ae) (by first|omega|(dsimp only;omega)|(simp;omega)) ⟨aA,by rw [Z,← List.append_assoc];exact (U ⟨(v:Int),(u:Int),dg D j⟩ _ _ J (Int.toNat_natCast v) ak).1⟩ ?_ ?_ ?_)
       · exact aF
       · exact aF
       · exact aC
      ·
       refine (bX el258 aA rfl rfl rfl fun cT=>⟨aC,?_⟩);refine f_O 4 rfl ((fG kt257 Tryz.zeroValue258 rfl rfl rfl _ ai).does ⟨aC,?_⟩);refine f_O 15 rfl (dJ el258 rfl rfl ap (ys:=[.int .i64 (u:Int),.int .u64 (dg D j)]) ⟨(rdA rfl),(rdA rfl),trivial⟩ rfl rfl (by rw [List.length_append] at ab;omega) (by rw [List.length_append] at ab;omega) fun ac ae ak=>⟨aC,?_⟩);refine fX 16 rfl (fB kt257 rfl rfl rfl rfl ⟨aC,?_⟩);refine cO aU<|dI<|bP kh27<|aI<|f_Q (bF rfl rfl)<|aB 1 rfl<|aY<|gN (Sub.joinF (m:=ae) (G' :=rG) (U ⟨(v:Int),(u:Int),dg D j⟩ _ _ J (Int.toNat_natCast v) ak).2) ?_
       refine cV (a6 (j+1,fW ents (v:Int) ac J,fM ents (v:Int) J,vs.set v ac,ms.set v ae) (by first|omega|(dsimp only;omega)|(simp;omega)) ⟨aA,by rw [Z,← List.append_assoc];exact (U ⟨(v:Int),(u:Int),dg D j⟩ _ _ J (Int.toNat_natCast v) ak).1⟩ ?_ ?_ ?_)
       · exact aF
       · exact aF
       · exact aC
     ·
      have bM:mxA B' D j=[]:=by unfold mxA;rw [if_neg c139]
      rw [bM,List.append_nil] at Z;refine dZ<|dI<|bP kh27<|aI<|f_Q (bF rfl rfl)<|aB 1 rfl<|aY ?_
      refine cV (a6 (j+1,ents,J,vs,ms) (by first|omega|(dsimp only;omega)|(simp;omega)) ⟨aA,by rw [Z];exact hL⟩ ?_ ?_ ?_)
      · exact aF
      · exact aF
      · exact aC
    ·
     obtain rfl:j=D.length:=aA
     refine cS<|cU<|cU<|eH<|dI<|bP kh17<|aI<|f_Q (bF rfl rfl)<|aB 1 rfl<|aY ?_
     refine cV (a6 (i+1,ents,J,vs,ms) (by first|omega|(dsimp only;omega)|(simp;omega)) ⟨aA,by rw [bj];exact hL⟩ ?_ ?_ ?_)
     · exact aF
     · exact aF
     · exact aC
  ·
   obtain rfl:i=Ms.length:=aA
   rw [List.take_length] at hL;refine cS<|cU<|cU<|eH<|bP kh13<|aV fun kh31=>aG fun cm=>aB 1 rfl<|dY bU rfl<|aB 1 rfl ?_
   refine aD cm<|aS ?_
   refine dF (α:=Nat×List (Int×Value×Nat)×Nat×List Value×List Seg) [2,3,4,5,7,8,14,19,165,166] (fun ⟨k,ents,J,vs,ms⟩=>[(167,.int .i64 (k:Int))]) (fun ⟨k,ents,J,vs,ms⟩=>[[(ao,e9 iO ents J)],ms.flatten,mM,[(b7,blk [.int .i64 (n:Int),.slice A l.length cap] 24)],[(b8,blk [.slice Ab bs.length cb,.slice Ac R.length cc] 34)],[(aw,blk [.int .i64 0,.int .i64 0,.int .i64 0,.slice none 0 0] 138)]]) (fun ⟨k,ents,J,vs,ms⟩=>k≤M.length∧LinkR 260 n (kE Lb l Ms++aE l (M.take k)) ents vs ms) (fun ⟨k,ents,J,vs,ms⟩=>M.length - k) (0,ents,J,vs,ms) ?_ ?_ ?_ ?_
   · exact aF
   · exact aC
   · exact ⟨Nat.zero_le _,by rw [List.take_zero,show aE l []=[] from rfl,List.append_nil];exact hL⟩
   ·
    rintro ⟨k,ents,J,vs,ms⟩ ⟨ec,hL⟩;refine fJ (e:=[(167,_),(2,_),(3,_),(4,_),(5,_),(7,_),(8,_),(14,_),(19,_),(165,_),(166,_)]) aF ?_;refine aG fun kh33=>aB 1 rfl<|aD kh33<|aV fun kh34=>aX rfl (fun cp=>?_) (fun cp=>?_)
    ·
     have hk:k<M.length:=aA
     obtain ⟨i,hi,X⟩:=cI _ (List.getElem_mem hk)
     have ew:=aq i X
     obtain ⟨v,hv,au⟩:∃ v:Nat,l[i].src=(v:Int)∧v<n:=⟨l[i].src.toNat,aA,aA⟩
     obtain ⟨bA,oA,cj,cn,ct⟩:=hr (fH cH dO aA X)
     have eh:=wtL_len l M
     have hwk:k<(wtL l M).length:=aA
     have c2:(wtL l M)[k]=l[i].wt:=by have:=wtL_at hk X hi;rw [List.getElem?_eq_getElem hwk] at this;exact Option.some.inj this
     obtain ⟨b2,o2,rfl,dp,c9⟩:=b3 (gX hwk)
     obtain ⟨ei,ef,rfl,rfl⟩:=dm.at_ aA
     have Z:=aE_next hk X hi
     have a2:=kE_len (Lb:=Lb) (l:=l) bt
     have bw:=aE_len l (M.take k)
     rw [List.length_take] at bw;have ed:=bh _ (List.getElem_mem X)
     have eb:=bC _ (List.getElem_mem X)
     refine bZ kh34<|aV fun kh35=>aS<|aG fun kh36=>aB 1 rfl<|f_Q (aM bU rfl rfl (k))<|f_Q (aH Tryz.isAgg3 rfl (rdA (v:= .int .i64 (i:Int)) (d7 (by rw [d9 hk,hi])))) ?_
     refine aB 2 rfl<|aD kh36<|aG fun kh37=>cN gM rfl<|f_Q (aH Tryz.isAgg22 rfl (v:= .slice (some ⟨bA,oA,none⟩) l.length cap) (rdA (by rw [← cj];rfl))) ?_
     refine aB 1 rfl<|f_Q (aM j7 rfl rfl (oA+i*3))<|cN gC rfl<|f_Q (aH Tryz.isAgg3 rfl (show Rd _ _ _ _ _ (.int .i64 (v:Int)) by rw [← hv];exact rdS cn (by have:=ct (i*3+0) _ (by rw [i1 cH dO l i 0 X aA];rfl);rwa [← Nat.add_assoc] at this))) ?_
     refine aB 1 rfl<|aD kh37 ?_
     obtain ⟨val,rm,rG,ai,ap,bL,U⟩:=hL.split au
     have ab:=outs_le (kE Lb l Ms++aE l (M.take k)) v
     obtain ⟨Ar,cr,rfl,cY⟩:=ap.val
     refine eP (Sub.splitF bL)<|cQ [[(b7,blk [.int .i64 (n:Int),.slice A l.length cap] 24)]] rfl<|f_T 0 rfl (aR rfl)<|f_T 1 rfl (aR rfl)<|f_T 2 rfl (aR rfl)<|f_T 3 rfl (aR rfl)<|f_T 5 rfl (aT gM rfl)<|f_T 6 rfl (aH Tryz.isAgg22 rfl (v:= .slice (some ⟨bA,oA,none⟩) l.length cap) (rdA (by rw [← cj];rfl))) ?_;refine f_T 7 rfl (aR rfl)<|f_T 8 rfl (aM j7 rfl rfl (oA+i*3))<|f_T 9 rfl (aT fT rfl)<|f_T 10 rfl (aH Tryz.isAgg3 rfl (rdS cn (by have:=ct (i*3+1) _ (by rw [i1 cH dO l i 1 X aA];rfl);rwa [← Nat.add_assoc] at this))) ?_
     refine f_T 11 rfl (aR rfl)<|f_T 12 rfl (aR rfl)<|f_T 13 rfl (aM sl204 rfl rfl (o2+k))<|f_T 14 rfl (aH Tryz.isAgg56 rfl (show Rd _ _ _ _ _ (.int .u32 l[i].wt) by rw [← c2];exact eC (enc:=(.int .u32 ·)) dp c9 hwk)) ?_
     refine f_T 15 rfl (iH Tryz.runUnderlying56 Tryz.runUnderlying46 rfl _ (iS aA)) ?_;refine f_T 16 rfl (dU st260 rfl rfl)<|gD 4 17 rfl rfl aU rfl rfl rfl rfl rfl rfl ?_ ?_
     ·
      refine (fG kt257 Tryz.zeroValue258 rfl rfl rfl _ ai).does ⟨aC,?_⟩;refine f_O 17 rfl (bX el258 aA rfl rfl rfl fun cE=>⟨aC,?_⟩);refine f_O 18 rfl (dJ el258 rfl rfl ap (ys:=[.int .i64 l[i].dst,.int .u64 l[i].wt]) ⟨(rdA rfl),(rdA rfl),trivial⟩ rfl rfl (by rw [List.length_append] at ab;omega) (by rw [List.length_append] at ab;omega) fun al ad ag=>⟨aC,?_⟩);refine fX 19 rfl (fB kt257 rfl rfl rfl rfl ⟨aC,?_⟩);refine cO aU<|dI<|bP kh35<|aI<|f_Q (bF rfl rfl)<|aB 1 rfl<|aY<|gN (Sub.joinF (m:=ad) (G' :=rG) (U l[i] _ _ J aA ag).2) ?_
      refine cV (a6 (k+1,fW ents (v:Int) al J,fM ents (v:Int) J,vs.set v al,ms.set v ad) (by first|omega|(dsimp only;omega)|(simp;omega)) ⟨aA,by rw [Z,← List.append_assoc];exact (U l[i] _ _ J aA ag).1⟩ ?_ ?_ ?_)
      · exact aF
      · exact aF
      · exact aC
     ·
      refine (bX el258 aA rfl rfl rfl fun cE=>⟨aC,?_⟩);refine f_O 4 rfl ((fG kt257 Tryz.zeroValue258 rfl rfl rfl _ ai).does ⟨aC,?_⟩);refine f_O 18 rfl (dJ el258 rfl rfl ap (ys:=[.int .i64 l[i].dst,.int .u64 l[i].wt]) ⟨(rdA rfl),(rdA rfl),trivial⟩ rfl rfl (by rw [List.length_append] at ab;omega) (by rw [List.length_append] at ab;omega) fun al ad ag=>⟨aC,?_⟩);refine fX 19 rfl (fB kt257 rfl rfl rfl rfl ⟨aC,?_⟩);refine cO aU<|dI<|bP kh35<|aI<|f_Q (bF rfl rfl)<|aB 1 rfl<|aY<|gN (Sub.joinF (m:=ad) (G' :=rG) (U l[i] _ _ J aA ag).2) ?_
      refine cV (a6 (k+1,fW ents (v:Int) al J,fM ents (v:Int) J,vs.set v al,ms.set v ad) (by first|omega|(dsimp only;omega)|(simp;omega)) ⟨aA,by rw [Z,← List.append_assoc];exact (U l[i] _ _ J aA ag).1⟩ ?_ ?_ ?_)
      · exact aF
      · exact aF
      · exact aC
    ·
     obtain rfl:k=M.length:=aA
     rw [List.take_length] at hL;have a2:=kE_len (Lb:=Lb) (l:=l) bt
     have bw:=aE_len l M
     have de:(kE Lb l Ms++aE l M).length≤281474976710656:=by rw [List.length_append];omega
     have c0:LkOk n (kE Lb l Ms++aE l M):=fun a h=>by
       rcases bW.src a h with ⟨kk,_,h1,h2,h3,h4⟩|⟨h1,_⟩
       · exact ⟨nA aq h1,nA aq h2,h4.nonneg bh,Int.le_of_lt h3⟩
       · have h3:=bC a h1
         have h4:=bh a h1
         obtain ⟨i,hi,rfl⟩:=List.mem_iff_getElem.1 h1
         have h5:=aq i hi
         exact ⟨aA,aA,h4,by unfold INF;omega⟩
     refine cS<|cU<|cU<|eH<|bP kh31<|aG fun kh38=>f_Q (aQ (vs:=[_,_]) Tryz.isAgg24 Tryz.sizeOf24 rfl rfl ⟨(rdA rfl),(rdA rfl),trivial⟩)<|f_Q (aQ (vs:=[_,_]) Tryz.isAgg34 Tryz.sizeOf34 rfl rfl ⟨(rdA rfl),(rdA rfl),trivial⟩)<|aB 2 rfl ?_
     refine f_S (aW Tryz.call9 rfl (fun w_ hp_=>i8 (n:Int) A l cap Ab bs cb Ac R cc q c w_ (hr.up0 hp_) hl hN hok (hn.up0 hp_)) ?_);rintro _ _ ⟨F,ej,er,dd,rfl,rfl,cW,_,ci⟩;obtain bc:F=bdL L c l:=by rw [ci bi,show q.toNat - 1=k1+1 by omega,br]
     have cu:=nX L c l
     have aa:=fun (v:Int) (h:v∈bdL L c l)=>nA (n:=n) aq h
     rw [← bc] at cu aa;rw [bi];dsimp only [aK,aJ];refine aB 5 rfl<|aD kh38<|aV fun kh39=>aG fun kh40=>aB 2 rfl<|aD kh40<|d4 rfl aO<|bZ kh39<|aG fun kh41=>aB 3 rfl ?_
     refine f_Q (dU st138 rfl rfl)<|f_S (cX Tryz.zeroValue138 rfl fun b31=>?_)
     refine f_Z (bS Tryz.sizeOf138 rfl rfl rfl rfl cG _ rfl ?_);refine aD kh41<|aV fun kh42=>aG fun cz=>aB 1 rfl<|dY bU rfl<|aB 1 rfl<|aD cz<|aS ?_
     refine dF (α:=Nat×List Int×Value×Seg) [7,14,19,30,31,214,215] (fun ⟨i,D2,dv,md⟩=>[(216,.int .i64 (i:Int))]) (fun ⟨i,D2,dv,md⟩=>[[(b31,blk [.int .i64 q,.int .i64 c,.int .i64 ep,dv] 138)],md,[(ao,e9 iO ents J)],ms.flatten,dd,[(b7,blk [.int .i64 (n:Int),.slice A l.length cap] 24)],[(aw,blk [.int .i64 0,.int .i64 0,.int .i64 0,.slice none 0 0] 138)]]) (fun ⟨i,D2,dv,md⟩=>i≤F.length∧Own 46 1 dv D2.length (eT D2) md∧MRows F (IsB (kE Lb l Ms++aE l M) iM) D2 i) (fun ⟨i,D2,dv,md⟩=>F.length - i) (0,[],.slice none 0 0,[]) ?_ ?_ ?_ ?_
     · exact aF
     · exact aC
     · exact ⟨Nat.zero_le _,Own.nil _ _,MRows.nil _ _⟩
     ·
      rintro ⟨i,D2,dv,md⟩ ⟨cy,hO,hR⟩;refine fJ (e:=[(216,_),(7,_),(14,_),(19,_),(30,_),(31,_),(214,_),(215,_)]) aF ?_;refine aG fun kh44=>aB 1 rfl<|aD kh44<|aV fun kh45=>aX rfl (fun cw=>?_) (fun cw=>?_)
      ·
       have hi:i<F.length:=aA
       obtain ⟨v,hv,au⟩:∃ v:Nat,F[i]=(v:Int)∧v<n:=⟨F[i].toNat,by have:=aa _ (List.getElem_mem hi);omega,by have:=aa _ (List.getElem_mem hi);omega⟩
       obtain ⟨bB,bf,rfl,rfl⟩:=cW.at_ aA
       have bR:D2.length≤268435456:=by rw [hR.len];exact Nat.le_trans (Nat.mul_le_mul (show i≤16384 by omega) (show F.length≤16384 by omega)) (by decide)
       refine bZ kh45<|aV fun kh46=>aS<|aG fun kh47=>f_Q (aM bU rfl rfl (i))<|f_Q (aH Tryz.isAgg3 rfl (rdA (v:= .int .i64 (v:Int)) (d7 (by rw [d9 hi,hv])))) ?_
       refine aB 1 rfl<|aD kh47<|aG fun kh48=>cN eV rfl<|c7 Tryz.isAgg3 rfl (rdA rfl)<|aB 2 rfl ?_
       refine f_S (d5 [[(ao,e9 iO ents J)],ms.flatten] _ Tryz.call160 rfl (by repeat (first|exact Sub.refl|refine aL ?_)) (fun w_ hp_=>spread_spec n ⟨aA,aA⟩ (kE Lb l Ms++aE l M) c0 de ents J ao vs ms hL v au w_ hp_.owns) ?_);rintro _ _ ⟨W,bd,rfl,rfl,hW⟩;have eu:=hW.len
       dsimp only [aK,aJ];refine aB 1 rfl<|aD kh48<|aG fun kh49=>aB 1 rfl<|dY bU rfl<|aB 1 rfl<|aD kh49<|aS ?_
       refine dF (α:=Nat×Value×Seg) [7,14,19,30,31,34,214,215,216,225,226] (fun ⟨j,ar,an⟩=>[(227,.int .i64 (j:Int))]) (fun ⟨j,ar,an⟩=>[[(b31,blk [.int .i64 q,.int .i64 c,.int .i64 ep,ar] 138)],an,[(bd,blk (eT W) 46)],[(ao,e9 iO ents J)],ms.flatten,[(bB,blk (a8 F++bf) 3)],[(b7,blk [.int .i64 (n:Int),.slice A l.length cap] 24)],[(aw,blk [.int .i64 0,.int .i64 0,.int .i64 0,.slice none 0 0] 138)]]) (fun ⟨j,ar,an⟩=>j≤F.length∧Own 46 1 ar (D2++j8 (F.take j) W).length (eT (D2++j8 (F.take j) W)) an) (fun ⟨j,ar,an⟩=>F.length - j) (0,dv,md) ?_ ?_ ?_ ?_
       · exact aF
       · exact aC
       · exact ⟨Nat.zero_le _,by simpa [j8] using hO⟩
       ·
        rintro ⟨j,ar,an⟩ ⟨c6,hO'⟩;refine fJ (e:=[(227,_),(7,_),(14,_),(19,_),(30,_),(31,_),(34,_),(214,_),(215,_),(216,_),(225,_),(226,_)]) aF ?_;refine aG fun kh50=>aB 1 rfl<|aD kh50<|aV fun kh51=>aX rfl (fun co=>?_) (fun co=>?_)
        ·
         have hj:j<F.length:=aA
         obtain ⟨u,hu,db⟩:∃ u:Nat,F[j]=(u:Int)∧u<n:=⟨F[j].toNat,by have:=aa _ (List.getElem_mem hj);omega,by have:=aa _ (List.getElem_mem hj);omega⟩
         have Z:j8 (F.take (j+1)) W=j8 (F.take j) W++[dg W u]:=by rw [rowD_take hj,hu];rfl
         have dl:=rowD_len (F.take j) W
         rw [List.length_take] at dl;refine bZ kh51<|aV fun kh52=>aS<|aG fun kh53=>f_Q (aM bU rfl rfl (j))<|f_Q (aH Tryz.isAgg3 rfl (rdA (v:= .int .i64 (u:Int)) (d7 (by rw [d9 hj,hu])))) ?_
         refine aB 1 rfl<|aD kh53<|cQ [[(bd,blk (eT W) 46)],[(bB,blk (a8 F++bf) 3)]] rfl<|f_T 0 rfl (aT k8 rfl)<|f_T 2 rfl (aR rfl)<|f_T 3 rfl (aR rfl)<|f_T 4 rfl (aM j6 rfl rfl (u))<|f_T 5 rfl (aH Tryz.isAgg46 rfl (rdA (iE (mF aA))))<|gD 1 6 rfl rfl aU rfl rfl rfl rfl rfl rfl ?_ ?_
         ·
          refine (aH Tryz.isAgg41 rfl (rdA rfl)).does ⟨aC,?_⟩;refine f_O 6 rfl (bX qV aA rfl rfl rfl fun cv=>⟨aC,?_⟩);refine f_O 7 rfl (dJ qV rfl rfl hO' (ys:=[.int .u64 (dg W u)]) ⟨(rdA rfl),trivial⟩ rfl rfl (by rw [List.length_append];omega) (by rw [List.length_append];omega) fun cf a1 ah=>⟨aC,?_⟩);obtain ⟨aj,O,rfl,_⟩:=ah.val
          refine f_T 8 rfl (aT k8 rfl)<|fX 9 rfl (bQ Tryz.sizeOf41 rfl rfl rfl rfl (Nat.le_refl _) [.int .i64 q,.int .i64 c,.int .i64 ep,.slice aj ((D2++j8 (F.take j) W).length+1) O] rfl ⟨aC,?_⟩)
          refine cO aU<|dI<|bP kh52<|aI<|f_Q (bF rfl rfl)<|aB 1 rfl<|aY ?_
          refine cV (a6 (j+1,.slice aj ((D2++j8 (F.take j) W).length+1) O,a1) (by first|omega|(dsimp only;omega)|(simp;omega)) ⟨aA,by rw [Z,← List.append_assoc,← u64_len1];exact ah⟩ ?_ ?_ ?_)
          · exact aF
          · exact aF
          · exact aC
         ·
          refine (bX qV aA rfl rfl rfl fun cv=>⟨aC,?_⟩);refine f_O 1 rfl ((aH Tryz.isAgg41 rfl (rdA rfl)).does ⟨aC,?_⟩);refine f_O 7 rfl (dJ qV rfl rfl hO' (ys:=[.int .u64 (dg W u)]) ⟨(rdA rfl),trivial⟩ rfl rfl (by rw [List.length_append];omega) (by rw [List.length_append];omega) fun cf a1 ah=>⟨aC,?_⟩);obtain ⟨aj,O,rfl,_⟩:=ah.val
          refine f_T 8 rfl (aT k8 rfl)<|fX 9 rfl (bQ Tryz.sizeOf41 rfl rfl rfl rfl (Nat.le_refl _) [.int .i64 q,.int .i64 c,.int .i64 ep,.slice aj ((D2++j8 (F.take j) W).length+1) O] rfl ⟨aC,?_⟩)
          refine cO aU<|dI<|bP kh52<|aI<|f_Q (bF rfl rfl)<|aB 1 rfl<|aY ?_
          refine cV (a6 (j+1,.slice aj ((D2++j8 (F.take j) W).length+1) O,a1) (by first|omega|(dsimp only;omega)|(simp;omega)) ⟨aA,by rw [Z,← List.append_assoc,← u64_len1];exact ah⟩ ?_ ?_ ?_)
          · exact aF
          · exact aF
          · exact aC
        ·
         obtain rfl:j=F.length:=aA
         rw [List.take_length] at hO';refine cS<|cU<|cU<|eH<|dI<|bP kh46<|aI<|f_Q (bF rfl rfl)<|aB 1 rfl<|aY ?_
         refine cV (a6 (i+1,D2++j8 F W,ar,an) (by first|omega|(dsimp only;omega)|(simp;omega)) ⟨aA,hO',hR.next hi fun j hj=>by rw [hv,Int.toNat_natCast];exact hW.isB (by have:=aa _ (List.getElem_mem hj);omega)⟩ ?_ ?_ ?_)
         · exact aF
         · exact aF
         · exact aC
      ·
       obtain rfl:i=F.length:=aA
       obtain ⟨AD,cD,rfl,cd⟩:=hO.val
       refine cS<|cU<|cU<|eH<|bP kh42<|aG fun kh54=>f_Q (aQ (vs:=[_,_,_,_]) Tryz.isAgg138 Tryz.sizeOf138 rfl rfl ⟨(rdA rfl),(rdA rfl),(rdA rfl),(rdA rfl),trivial⟩)<|f_Z (bS Tryz.sizeOf138 rfl rfl rfl rfl cG _ rfl ?_)
       refine aB 1 rfl<|aD kh54<|aZ ?_
       exact gT (vs:=gW ⟨q,c,ep,AD,D2,cD⟩) [md] Tryz.results124 rfl Tryz.isAgg138 Tryz.sizeOf138 rfl ⟨(rdA rfl),(rdA rfl),(rdA rfl),(rdA rfl),trivial⟩ rfl aC ⟨D2,AD,cD,md,rfl,rfl,hO,up_ok aq bh bu bp Y bW (by rw [← bc];exact hR.len) (by rw [← bc];exact fun a j ha hj=>hR.at_ a j ha ha hj)⟩
abbrev MRow:=Option Addr×List Mx×Nat
abbrev mrV (r:MRow):Value:= .slice r.1 r.2.1.length r.2.2
def g4 (O:List MRow):List (List Mx):=O.map (·.2.1)
theorem nC (O:List MRow):(g4 O).length=O.length:=by simp [g4]
theorem nK {O:List MRow} {k:Nat} (h:k<O.length):(g4 O).getD k []=O[k].2.1:=by simp [g4,List.getD_eq_getElem?_getD,h]
structure OvRo (S:Nat→Prop) (w:World) (Ao:Option Addr) (O:List MRow):Prop where
 o:Ro S w Ao (O.map mrV)
 ol:O.length≤9223372036854775807
 rows:∀ r∈O,Ro S w r.1 (r.2.1.flatMap gW)∧r.2.1.length≤9223372036854775807
 mats:∀ r∈O,∀ m∈r.2.1,Ro S w m.A (eT m.D)
theorem OvRo.up0 {S:Nat→Prop} {w0 w:World} {m:Seg} {F:Option Addr} {O:List MRow} (h:OvRo S w0 F O) (hp:Hp S w0 m w):OvRo (Fr w []) w F O:=
 ⟨h.o.up0 hp,h.ol,fun r hr=>⟨(h.rows r hr).1.up0 hp,(h.rows r hr).2⟩,fun r hr m hm=>(h.mats r hr m hm).up0 hp⟩
theorem OvRo.nil (S:Nat→Prop) (w:World):OvRo S w none []:=⟨Ro.nil,aO,(fun r hr=>by cases hr),(fun r hr=>by cases hr)⟩
structure MxOk (l:List Arc) (L:List Int) (k:Nat) (c ep:Int) (x:Mx):Prop where
 lv:x.lv=(k:Int)+1
 cl:x.cl=c
 ep:0≤x.ep∧x.ep≤ep
 mat:MatOk l L c x.D
def RowOk (l:List Arc) (L:List Int) (k:Nat) (ep:Int) (row:List Mx):Prop:=∀ c:Nat,(c:Int)≤fC L→∃ x,row[c]? =some x∧MxOk l L k (c:Int) ep x
def oJ (row:List Mx) (kids:List Int):List Mx:=kids.map fun x=>row[x.toNat]?.getD ⟨0,0,0,none,[],0⟩
theorem kidsM_len (row:List Mx) (kids:List Int):(oJ row kids).length=kids.length:=by simp [oJ]
theorem kidsM_next {row:List Mx} {kids:List Int} {i x:Nat} (hi:i<kids.length) (hx:x<row.length) (e:kids[i]=(x:Int)):oJ row (kids.take (i+1))=oJ row (kids.take i)++[row[x]]:=by
 unfold oJ;rw [List.take_succ_eq_append_getElem hi,List.map_append];simp [e,hx]
theorem kid_m {S:Nat→Prop} {w:World} {n J:Nat} {l:List Arc} {Lb L:List Int} {c ep:Int} {kids:List Int} {row:List Mx} (hn:1≤n) (hk:Kids n Lb L c kids) (hl:Lb.length=n) (X:eG (n:Int) Lb=true) (F:RowOk l Lb J ep row) (U:∀ m∈row,Ro S w m.A (eT m.D)):
  KidM S w l Lb ((J:Int)+1) ep kids (oJ row kids)∧∀ x∈kids,∃ y:Nat,x=(y:Int)∧y<row.length:=by
 have key:∀ x∈kids,∃ y:Nat,x=(y:Int)∧∃ m,row[y]? =some m∧MxOk l Lb J x ep m:=fun x hx=>by
  obtain ⟨v,hv,_,e⟩:=hk.has x hx
  have hm:x∈Lb:=by rw [← e,eJ aA];exact List.getElem_mem _
  have h1:=e7 X hn x hm
  have h2:=iL hm
  obtain ⟨y,rfl⟩:∃ y:Nat,x=(y:Int):=⟨x.toNat,aA⟩
  obtain ⟨m,h3,O⟩:=F y h2
  exact ⟨y,rfl,m,h3,O⟩
 have at_:∀ i (h:i<(oJ row kids).length) (h' :i<kids.length),(oJ row kids)[i]∈row∧MxOk l Lb J kids[i] ep (oJ row kids)[i]:=fun i h h' =>by
  obtain ⟨y,e,m,h3,O⟩:=key _ (List.getElem_mem h')
  have:(oJ row kids)[i]=m:=by simp only [oJ,List.getElem_map];rw [e,Int.toNat_natCast,h3];rfl
  rw [this];exact ⟨List.mem_of_getElem? h3,O⟩
 have hlen:=kidsM_len row kids
 refine ⟨⟨hlen,fun i h=>?_,fun i h h' =>(at_ i h h').2.cl,fun i h=>?_,fun i h=>U _ (at_ i h aA).1⟩,fun x hx=>?_⟩
 ·have:=(at_ i h aA).2;exact ⟨this.lv,this.ep⟩
 ·have:=(at_ i h aA).2;rw [this.cl];exact this.mat
 ·obtain ⟨y,e,m,h3,_⟩:=key x hx
  exact ⟨y,e,(List.getElem?_eq_some_iff.1 h3).1⟩
theorem rdsBlk {S:Nat→Prop} {w0:World} {segs:List Seg} {b:Nat} {cs:List Value} {T:TypeId} {f:Seg→List Seg} [h:At segs b (blk cs T) f]:Rds S w0 segs b 0 cs:=oQ cs 0 fun j v hj=>by rw [Nat.zero_add];exact rdA hj
theorem mx_one (m:Mx):(gW m).all (·.oneCell')=true:=rfl
theorem mxs_append (a b:List Mx):(a++b).flatMap gW=a.flatMap gW++b.flatMap gW:=List.flatMap_append
theorem mx_len1 {E:TypeId} {v:Value} {Ms:List Mx} {x:Mx} {m:Seg}:Own E 4 v (Ms.length+1) (Ms.flatMap gW++gW x) m=Own E 4 v (Ms++[x]).length ((Ms++[x]).flatMap gW) m:=by
 rw [mxs_append,List.length_append];simp
theorem ro_none {S:Nat→Prop} {w:World} {A:Option Addr} {D:List Int} (h:Ro S w A (eT D)) (e:A=none):D.length=0:=by
 rcases Nat.eq_zero_or_pos D.length with F|F
 ·exact F
 ·obtain ⟨b,o,e2,_⟩:=h (fun e=>by have:=iJ D;rw [e] at this;simp at this;omega)
  rw [e] at e2;cases e2
theorem u64s_one (D:List Int):(eT D).all (·.oneCell')=true:=List.all_eq_true.2 fun v hv=>by obtain ⟨x,_,rfl⟩:=List.mem_map.1 hv;rfl
theorem CloneD_spec (A:Option Addr) (len:Nat) (cs:List Value) (cap:Nat) (w:World) (hs:Ro (Fr w []) w A cs) (hn:A=none→len=0) (hl:cs.length=len*1) (hone:cs.all (·.oneCell')=true) (U:len≤1000000000):
    Meets Tryz.prog 125 [.slice A len cap] w [] (fun u own' =>∃ m,own' =[m]∧Own 46 1 u len cs m):=by
 refine bG Tryz.func125 rfl Tryz.ntmps125 rfl Owns.nil<|aG fun kh1=>aB 1 rfl<|aD kh1<|aV fun kh2=>aG fun kh3=>aB 1 rfl<|f_Q (o_eqlSl Tryz.underlying41 rfl rfl)<|aD kh3<|e8 rfl (fun c4=>?_) (fun c4=>?_)
 ·obtain rfl:A=none:=by cases A<;>first|rfl|simp at c4
  obtain rfl:len=0:=hn rfl
  obtain rfl:cs=[]:=List.eq_nil_of_length_eq_zero (by simpa using hl)
  refine aG fun F=>aB 1 rfl<|aD F<|aZ<|dA ?_
  exact bO [[]] Tryz.results125 rfl Sub.empty ⟨[],rfl,Own.nil _ _⟩
 ·refine bZ kh2<|aG fun kh5=>f_S (o_slice0 qV fun X=>?_)
  refine aB 1 rfl<|f_S (pJ qV rfl rfl (Own.mk (b:=X) (cs:=[]) (len:=0) rfl aA) (ys:=cs) (fun J=>by obtain ⟨b,off,e,Z,hc⟩:=hs J;exact ⟨b,off,e,Seen.rds fun _=>⟨Z,hc⟩⟩) hl hone aA aA fun v7 O Y=>?_)
  refine aB 1 rfl<|aD kh5<|aZ ?_
  exact bO [O] Tryz.results125 rfl (by repeat (first|exact aP|refine aL ?_)) ⟨O,rfl,by simpa using Y⟩
theorem oepochs_spec (ep:Int) (w:World) (he:0≤ep∧ep≤1073741824):Meets Tryz.prog 39 [.int .i64 ep] w [] (fun u m=>u= .bool true∧m=[]):=by
 refine bG Tryz.func39 rfl Tryz.ntmps39 rfl Owns.nil<|aG fun kh1=>aB 1 rfl<|aD kh1<|aG fun kh2=>aB 3 rfl<|f_trueL 5 rfl aA<|aB 4 rfl<|aD kh2<|aZ ?_
 exact bO [] Tryz.results39 rfl aP ⟨by rw [decide_eq_true he.2],rfl⟩
theorem made_spec (n:Nat) (A:Option Addr) (l:List Arc) (cap:Nat) (Ab:Option Addr) (bs:List Int) (cb:Nat) (Ac:Option Addr) (R:List Row) (cc:Nat) (Ao:Option Addr) (O:List MRow) (co:Nat) (q c ep f:Int) (k:Nat) (w:World) (hG:GN (Fr w []) w n A l Ab bs Ac R) (hO:OvRo (Fr w []) w Ao O) (hq:q=(k:Int)+1) (al:clE (n:Int) l bs (bJ R) q c=0) (he:0≤ep∧ep≤1073741824) (h1:f=1→k=0) (h2:f=2→∃ U,k=U+1∧U<O.length∧RowOk l ((bJ R).getD U []) U ep ((g4 O).getD U []))
    (h0:f≠1→f≠2→k<O.length∧∃ x,((g4 O).getD k [])[c.toNat]? =some x∧MxOk l ((bJ R).getD k []) k c ep x):
    Meets Tryz.prog 73 [.agg #[.int .i64 (n:Int),.slice A l.length cap],.agg #[.slice Ab bs.length cb,.slice Ac R.length cc],.slice Ao O.length co,.int .i64 q,.int .i64 c,.int .i64 ep,.int .i64 f] w [] (fun u own' =>∃ (x:Mx) (m' :Seg),u= .tuple #[.agg (gW x).toArray,.int .i64 0]∧own' =[m']∧Own 46 1 (.slice x.A x.D.length x.cap) x.D.length (eT x.D) m'∧MxOk l ((bJ R).getD k []) k c ep x):=by
 have b9:=hG
 obtain ⟨hr,hok,hn,aa⟩:=b9
 obtain ⟨cm,cp,hlen,cn⟩:=cF aa.g
 have hl:l.length≤9223372036854775807:=aA
 have hN:I64 (n:Int):=by constructor<;>omega
 have bY:=aa.len
 rw [eZ] at bY;have bE:=aa.many
 refine bG Tryz.func73 rfl Tryz.ntmps73 rfl Owns.nil<|aG fun kh1=>f_S (cZ rfl rfl fun b7=>?_)
 refine f_S (cZ rfl rfl fun b8=>?_);refine f_S (cX Tryz.zeroValue138 rfl fun bW=>?_);refine aB 1 rfl<|aD kh1<|aV fun kh2=>aG fun kh3=>aB 1 rfl<|aD kh3<|aS<|aG fun kh4=>aB 2 rfl<|aD kh4<|aX rfl (fun c28=>?_) (fun c28=>?_)
 ·obtain rfl:=h1 c28
  obtain rfl:q=1:=aA
  have ar:=al
  refine aG fun kh5=>f_Q (aQ (vs:=[_,_]) Tryz.isAgg24 Tryz.sizeOf24 rfl rfl ⟨(rdA rfl),(rdA rfl),trivial⟩)<|f_Q (aQ (vs:=[_,_]) Tryz.isAgg34 Tryz.sizeOf34 rfl rfl ⟨(rdA rfl),(rdA rfl),trivial⟩)<|aB 1 rfl ?_
  refine f_S (aW Tryz.call119 rfl (fun w_ F=>CInner_spec (n:Int) A l cap Ab bs cb Ac R cc 1 c w_ (hr.up0 F) hl hN hok (hn.up0 F)) ?_);rintro _ _ ⟨M,AM,cM,mM,rfl,rfl,an,_,bg⟩;obtain rfl:=bg ar
  rw [ar];have bf:=k4 (inP ((bJ R).getD 0 []) c) l
  have aq:ArcsIn l (gB (inP ((bJ R).getD 0 []) c) l):=mX _ _
  rw [show (1:Int).toNat - 1=0 from rfl] at an ⊢;obtain ⟨M,hM⟩:∃ M,gB (inP ((bJ R).getD 0 []) c) l=M:=⟨_,rfl⟩
  rw [hM] at an bf aq ⊢;dsimp only [aK,aJ];refine aB 5 rfl<|aD kh5<|aV fun kh6=>aG fun kh7=>aB 2 rfl<|aD kh7<|d4 rfl aO<|bZ kh6<|aG fun kh8=>f_Q (aQ (vs:=[_,_]) Tryz.isAgg24 Tryz.sizeOf24 rfl rfl ⟨(rdA rfl),(rdA rfl),trivial⟩) ?_
  refine aB 1 rfl ?_;refine f_S (aW Tryz.call120 rfl (fun w_ F=>Weights_spec n A l cap AM M M.length w_ (hr.up0 F) hok aa.g (fD (an.seen F)) aq aA) ?_);rintro _ _ ⟨AW,cW,mW,rfl,rfl,bj⟩;dsimp only [aK,aJ];refine aB 5 rfl<|aD kh8<|aV fun kh9=>aG fun kh10=>aB 2 rfl<|aD kh10<|d4 rfl aO<|bZ kh9<|aG fun kh11=>f_Q (aQ (vs:=[_,_]) Tryz.isAgg24 Tryz.sizeOf24 rfl rfl ⟨(rdA rfl),(rdA rfl),trivial⟩) ?_
  refine f_Q (aQ (vs:=[_,_]) Tryz.isAgg34 Tryz.sizeOf34 rfl rfl ⟨(rdA rfl),(rdA rfl),trivial⟩)<|aB 3 rfl ?_
  refine f_S (aW Tryz.call121 rfl (fun w_ F=>qLeaf_spec n A l cap Ab bs cb Ac R cc c ep AW M.length cW w_ (hG.up0 F) ar he (by rw [hM];exact fD (bj.seen F)) (by rw [hM])) ?_);rintro _ _ ⟨D,A2,c2,m2,rfl,rfl,bh,hD⟩;dsimp only [aK,aJ];refine aB 2 rfl<|f_Z (bS Tryz.sizeOf138 rfl rfl rfl rfl cG (gW ⟨1,c,ep,A2,D,c2⟩) rfl ?_)
  refine aB 1 rfl<|aD kh11<|aZ<|fA<|dA ?_
  exact gT (vs:=gW ⟨1,c,ep,A2,D,c2⟩) [m2] Tryz.results73 rfl Tryz.isAgg138 Tryz.sizeOf138 rfl ⟨(rdA rfl),(rdA rfl),(rdA rfl),(rdA rfl),trivial⟩ rfl aC ⟨⟨1,c,ep,A2,D,c2⟩,m2,rfl,rfl,bh,⟨aO,rfl,⟨he.1,Int.le_refl _⟩,hD⟩⟩
 ·refine aG fun kh12=>aB 2 rfl<|aD kh12<|aX rfl (fun c59=>?_) (fun c59=>?_)
  ·obtain ⟨U,rfl,ao,J⟩:=h2 c59
   obtain ⟨n',k',j0,b4,_,b2,bp,cd,cf⟩:=kD al
   obtain rfl:n=n' :=aA
   obtain rfl:k' =U+1:=aA
   obtain ⟨bw,az⟩:=bw_zero al aA
   have b3:=aa.rowlen (k:=U+1) bp
   have aw:=aa.rowlen (k:=U) aA
   have bB:=aa.right (k:=U) aA
   have ay:1≤n:=aA
   have ac:=ch_kids (c:=c) (q:=q) aA b3
   have bf:=k4 (btP ((bJ R).getD (U+1) []) ((bJ R).getD U []) c) l
   have aq:ArcsIn l (gB (btP ((bJ R).getD (U+1) []) ((bJ R).getD U []) c) l):=mX _ _
   obtain ⟨arcs,ha⟩:∃ arcs,gB (btP ((bJ R).getD (U+1) []) ((bJ R).getD U []) c) l=arcs:=⟨_,rfl⟩
   rw [ha] at bf aq;obtain ⟨kids,av⟩:∃ kids,chL (bJ R) q c=kids:=⟨_,rfl⟩
   have cg:kids.length≤1024:=by
     rw [← av];unfold chL
     refine Nat.le_trans (lN _) ?_;rw [fP,lowL_len,show q.toNat - 1=U+1 by omega];refine Nat.le_trans (pO _ _ _) ?_;omega
   rw [av] at ac;obtain ⟨bo,oo,rfl,bc,bi⟩:=hO.o (gX ao)
   have X:=hO.rows _ (List.getElem_mem ao)
   have Z:=hO.mats _ (List.getElem_mem ao)
   rw [nK ao] at J;obtain ⟨r,am⟩:∃ r,O[U]=r:=⟨_,rfl⟩
   rw [am] at X Z J;obtain ⟨Ar,row,cr⟩:=r
   dsimp only at X Z J;obtain ⟨X,_⟩:=X
   have ce:=(kid_m (S:=fun _=>True) (w:=w) ay ac aw bB J (fun m hm=>fun bR=>by obtain ⟨b,o,e,_,h⟩:=Z m hm bR;exact ⟨b,o,e,trivial,h⟩)).2
   refine aG fun kh13=>f_Q (aQ (vs:=[_,_]) Tryz.isAgg24 Tryz.sizeOf24 rfl rfl ⟨(rdA rfl),(rdA rfl),trivial⟩)<|f_Q (aQ (vs:=[_,_]) Tryz.isAgg34 Tryz.sizeOf34 rfl rfl ⟨(rdA rfl),(rdA rfl),trivial⟩)<|aB 2 rfl ?_
   refine f_S (aW Tryz.call122 rfl (fun w_ F=>CBetween_spec (n:Int) A l cap Ab bs cb Ac R cc q c w_ (hr.up0 F) hl hN hok (hn.up0 F)) ?_);rintro _ _ ⟨M,AM,cM,mM,rfl,rfl,an,_,bg⟩;obtain rfl:M=arcs:=by rw [bg bw,show q.toNat - 1=U+1 by omega,show q.toNat - 2=U by omega,ha]
   rw [bw];dsimp only [aK,aJ];refine aB 5 rfl<|aD kh13<|aV fun kh14=>aG fun kh15=>aB 2 rfl<|aD kh15<|d4 rfl aO<|bZ kh14<|aG fun kh16=>f_Q (aQ (vs:=[_,_]) Tryz.isAgg24 Tryz.sizeOf24 rfl rfl ⟨(rdA rfl),(rdA rfl),trivial⟩) ?_
   refine aB 1 rfl ?_;refine f_S (aW Tryz.call120 rfl (fun w_ F=>Weights_spec n A l cap AM M M.length w_ (hr.up0 F) hok aa.g (fD (an.seen F)) aq aA) ?_);rintro _ _ ⟨AW,cW,mW,rfl,rfl,bj⟩;dsimp only [aK,aJ];refine aB 5 rfl<|aD kh16<|aV fun kh17=>aG fun kh18=>aB 2 rfl<|aD kh18<|d4 rfl aO<|bZ kh17<|aG fun kh19=>f_Q (aQ (vs:=[_,_]) Tryz.isAgg24 Tryz.sizeOf24 rfl rfl ⟨(rdA rfl),(rdA rfl),trivial⟩) ?_
   refine f_Q (aQ (vs:=[_,_]) Tryz.isAgg34 Tryz.sizeOf34 rfl rfl ⟨(rdA rfl),(rdA rfl),trivial⟩)<|aB 2 rfl ?_
   refine f_S (aW Tryz.call123 rfl (fun w_ F=>NChildren_spec (n:Int) A l cap Ab bs cb Ac R cc q c w_ (hr.up0 F) hl hN hok (hn.up0 F)) ?_);rintro _ _ ⟨K',AK,cK,mK,rfl,rfl,bM,_,b1⟩;obtain rfl:K' =kids:=(b1 az).trans av
   rw [az];dsimp only [aK,aJ];refine aB 5 rfl<|aD kh19<|aV fun kh20=>aG fun kh21=>aB 2 rfl<|aD kh21<|d4 rfl aO<|bZ kh20<|aG fun kh22=>aB 1 rfl ?_
   refine aD kh22<|aV fun kh23=>aG fun bt=>aB 1 rfl<|dY bU rfl<|aB 1 rfl<|aD bt<|aS ?_
   refine dF (α:=Nat×Value×Seg) [2,3,4,5,7,8,14,21,95,96] (fun ⟨i,ov,om⟩=>[(97,.int .i64 (i:Int)),(23,ov)]) (fun ⟨i,ov,om⟩=>[om,mK,mW,[(b7,blk [.int .i64 (n:Int),.slice A l.length cap] 24)],[(b8,blk [.slice Ab bs.length cb,.slice Ac R.length cc] 34)],[(bW,blk [.int .i64 0,.int .i64 0,.int .i64 0,.slice none 0 0] 138)]]) (fun ⟨i,ov,om⟩=>i≤K'.length∧Own 138 4 ov (oJ row (K'.take i)).length ((oJ row (K'.take i)).flatMap gW) om) (fun ⟨i,ov,om⟩=>K'.length - i) (0,.slice none 0 0,[]) ?_ ?_ ?_ ?_
   ·exact aF
   ·exact aC
   ·exact ⟨Nat.zero_le _,Own.nil _ _⟩
   ·rintro ⟨i,ov,om⟩ ⟨ck,au⟩;refine aG fun kh25=>aB 1 rfl<|aD kh25<|aV fun kh26=>aX rfl (fun b6=>?_) (fun b6=>?_)
    ·have hi:i<K'.length:=aA
     obtain ⟨x,hx,Y⟩:=ce _ (List.getElem_mem hi)
     obtain ⟨br,or,rfl,be,a2⟩:=X (fH gW kC aA Y)
     obtain ⟨bK,cu,rfl,rfl⟩:=bM.at_ aA
     have b5:=kidsM_next hi Y hx
     have bq:=kidsM_len row (K'.take i)
     rw [List.length_take] at bq;refine bZ kh26<|aV fun kh27=>aS<|aG fun kh28=>f_Q (aM bU rfl rfl (i))<|f_Q (aH Tryz.isAgg3 rfl (rdA (v:= .int .i64 (x:Int)) (d7 (by rw [d9 hi,hx])))) ?_
     refine aB 1 rfl<|aD kh28<|aI<|aB 3 rfl<|f_Q (j5 rfl rfl _ (Eq.trans (d8 aA) (show _=(U:Int) by omega))) ?_
     refine f_Q (aM sl53 rfl rfl (oo + U)) <| f_Q (aH Tryz.isAgg141 rfl (show Rd _ _ _ _ _ (.slice (some ⟨br, or, none⟩) row.length cr) from (show Rd _ _ _ _ _ (mrV (some ⟨br, or, none⟩, row, cr)) by rw [← am]; exact eC (enc := mrV) bc bi ao))) ?_;refine aB 1 rfl <| f_Q (aM sl141 rfl rfl (or + x * 4)) <| f_Q (aQ (vs := gW (row[x]'Y)) Tryz.isAgg138 Tryz.sizeOf138 rfl rfl (gV kC be a2 Y)) <| f_S (bX el141 aA rfl rfl rfl fun b110 => ?_)
     refine f_S (dJ el141 rfl rfl au (ys := (gW (row[x]'Y))) rdsBlk rfl (mx_one _) aA aA fun bC bu bv => ?_);refine aB 1 rfl <| aY <| dI <| bP kh27 <| aI <| f_Q (bF rfl rfl) <| aB 1 rfl <| aY ?_
     refine cV (a6 (i+1,bC,bu) (by first|omega|(dsimp only;omega)|(simp;omega)) ⟨aA,by rw [b5,← mx_len1];exact bv⟩ ?_ ?_ ?_)
     ·exact aF
     ·exact aF
     ·exact aC
    ·obtain rfl:i=K'.length:=aA
     rw [List.take_length] at au;obtain ⟨Al,bD,rfl,cj⟩:=au.val
     have bq:=kidsM_len row K'
     refine cS<|cU<|cU<|eH<|bP kh23<|aG fun kh29=>f_Q (aQ (vs:=[_,_]) Tryz.isAgg24 Tryz.sizeOf24 rfl rfl ⟨(rdA rfl),(rdA rfl),trivial⟩)<|f_Q (aQ (vs:=[_,_]) Tryz.isAgg34 Tryz.sizeOf34 rfl rfl ⟨(rdA rfl),(rdA rfl),trivial⟩)<|aB 5 rfl ?_
     refine f_S (aW Tryz.call124 rfl (fun w_ F=>Up_spec n A l cap Ab bs cb Ac R cc q c ep U AW M.length cW Al (oJ row K') bD w_ (hG.up0 F) aA al he (by rw [ha];exact fD (bj.seen F)) (by rw [ha]) (by rw [av,show q - 1=(U:Int)+1 by omega];exact (kid_m ay ac aw bB J (fun m hm=>(Z m hm).up0 F)).1) (fD (au.seen F))) ?_);rintro _ _ ⟨D,A2,c2,m2,rfl,rfl,bh,hD⟩;dsimp only [aK,aJ];refine aB 2 rfl<|f_Z (bS Tryz.sizeOf138 rfl rfl rfl rfl cG (gW ⟨q,c,ep,A2,D,c2⟩) rfl ?_)
     refine aB 1 rfl<|aD kh29<|aZ<|fA<|dA ?_
     exact gT (vs:=gW ⟨q,c,ep,A2,D,c2⟩) [m2] Tryz.results73 rfl Tryz.isAgg138 Tryz.sizeOf138 rfl ⟨(rdA rfl),(rdA rfl),(rdA rfl),(rdA rfl),trivial⟩ rfl aC ⟨⟨q,c,ep,A2,D,c2⟩,m2,rfl,rfl,bh,⟨hq,rfl,⟨he.1,Int.le_refl _⟩,hD⟩⟩
  ·obtain ⟨ak,x,ag,ap⟩:=h0 c28 c59
   obtain ⟨bo,oo,rfl,bc,bi⟩:=hO.o (gX ak)
   have X:=hO.rows _ (List.getElem_mem ak)
   have Z:=hO.mats _ (List.getElem_mem ak)
   rw [nK ak] at ag;obtain ⟨r,am⟩:∃ r,O[k]=r:=⟨_,rfl⟩
   rw [am] at X Z ag;obtain ⟨Ar,row,cr⟩:=r
   dsimp only at X Z ag;obtain ⟨X,_⟩:=X
   obtain ⟨n',k',j0,b4,_,b2,bp,cd,cf⟩:=kD al
   obtain ⟨Y,bk⟩:=List.getElem?_eq_some_iff.1 ag
   have ba:=Z x (bk▸List.getElem_mem Y)
   obtain ⟨br,or,rfl,be,a2⟩:=X (fH gW kC aA Y)
   have cq:c.toNat=j0:=aA
   obtain ⟨ad,ae,ab,xA,xD,aj⟩:=x
   dsimp only at ba
   have ct:xD.length≤268435456:=by
     have h1:=nX ((bJ R).getD k []) c l
     have h2:=ap.mat.len
     dsimp only at h2;rw [h2];exact Nat.le_trans (Nat.mul_le_mul (show _≤16384 by omega) (show _≤16384 by omega)) (by decide)
   refine dZ<|dI<|bP kh2<|aG fun kh30=>aB 2 rfl<|f_Q (j5 rfl rfl _ (Eq.trans (d8 aA) (show _=(k:Int) by omega))) ?_
   refine f_Q (aM sl53 rfl rfl (oo+k))<|f_Q (aH Tryz.isAgg141 rfl (show Rd _ _ _ _ _ (.slice (some ⟨br,or,none⟩) row.length cr) from (show Rd _ _ _ _ _ (mrV (some ⟨br,or,none⟩,row,cr)) by rw [← am];exact eC (enc:=mrV) bc bi ak))) ?_;refine aB 1 rfl<|f_Q (aM sl141 rfl rfl (or+c.toNat*4))<|f_Q (aQ (vs:=[.int .i64 ad,.int .i64 ae,.int .i64 ab,.slice xA xD.length aj]) Tryz.isAgg138 Tryz.sizeOf138 rfl rfl (show Rds _ _ _ _ _ (gW ⟨ad,ae,ab,xA,xD,aj⟩) by rw [← bk];exact gV kC be a2 Y)) ?_
   refine f_S (cX Tryz.zeroValue138 rfl fun cv=>?_);refine f_Z (bS Tryz.sizeOf138 rfl rfl rfl rfl cG [.int .i64 ad,.int .i64 ae,.int .i64 ab,.slice xA xD.length aj] rfl ?_);refine aD kh30<|aG fun kh31=>cN k8 rfl<|c7 Tryz.isAgg41 rfl (rdA rfl) ?_
   refine f_S (aW Tryz.call125 rfl (fun w_ F=>CloneD_spec xA xD.length (eT xD) aj w_ (ba.up0 F) (ro_none ba) (by rw [iJ];omega) (u64s_one _) aA) ?_);rintro ci _ ⟨ax,rfl,a1⟩;obtain ⟨ai,ah,rfl,bL⟩:=a1.val
   dsimp only [aK,aJ];refine cN k8 rfl<|f_Z (bQ Tryz.sizeOf41 rfl rfl rfl rfl (Nat.le_refl _) [.int .i64 ad,.int .i64 ae,.int .i64 ab,.slice ai xD.length ah] rfl ?_)
   refine aD kh31<|aG fun kh32=>f_Q (aQ (vs:=[_,_,_,_]) Tryz.isAgg138 Tryz.sizeOf138 rfl rfl ⟨(rdA rfl),(rdA rfl),(rdA rfl),(rdA rfl),trivial⟩)<|f_Z (bS Tryz.sizeOf138 rfl rfl rfl rfl cG [.int .i64 ad,.int .i64 ae,.int .i64 ab,.slice ai xD.length ah] rfl ?_)
   refine aB 1 rfl<|aD kh32<|aZ ?_
   exact gT (vs:=gW ⟨ad,ae,ab,ai,xD,ah⟩) [ax] Tryz.results73 rfl Tryz.isAgg138 Tryz.sizeOf138 rfl ⟨(rdA rfl),(rdA rfl),(rdA rfl),(rdA rfl),trivial⟩ rfl aC ⟨⟨ad,ae,ab,ai,xD,ah⟩,ax,rfl,rfl,a1,⟨ap.lv,ap.cl,ap.ep,ap.mat⟩⟩

end Go.Proofs.YthpkelafioikaaaGreat
