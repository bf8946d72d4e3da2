import Derived.Test.YthpkelafioikaaaGreatFlyRun
import Derived.Test.YthpkelafioikaaaGreatAll14
import Derived.Test.YthpkelafioikaaaGreatFlyT
import Derived.Test.YthpkelafioikaaaGreatFlyR
import Derived.Test.YthpkelafioikaaaGreatAll4
namespace Go.Proofs.YthpkelafioikaaaGreat
open Go Go.RowKit Fly
set_option maxRecDepth 100000
set_option maxHeartbeats 4000000
set_option linter.all false
theorem inv_steps (p : Option Nat) (args : Array Value) (w : World) : (callMethod (.iface 103 (.map p)) "flyover/query.steps" args).run Tryz.prog w = .ok (.enter 216 (#[.map p] ++ args)) w := by kernel_rfl
def h9 (n bT bd:Nat) (h:Value):List Value:=[.iface 103 (.map (some bT)),.slice (some ⟨bd,0,none⟩) n n,h]
def FR0 (n bT bx bd:Nat) (d:List Int) (T:List (Option Int)) (m:Seg):Prop:=
 ∃ bH hm,m.Perm ([[(bx,blk (h9 n bT bd (.pointer (some ⟨bH,0,none⟩))) 153)],[(bd,blk (fH d) 46)],hm]:List Seg).flatten∧HRep T bH hm
def FR (n:Nat) (E:List Arc) (bT bx bd:Nat) (d:List Int) (T:List (Option Int)) (m:Seg):Prop:=
 ∃ bH hm ents c vs ms,m.Perm ([[(bx,blk (h9 n bT bd (.pointer (some ⟨bH,0,none⟩))) 153)],[(bd,blk (fH d) 46)],hm,[(bT,e7 iM ents c)],(ms:List Seg).flatten]:List Seg).flatten∧HRep T bH hm∧LinkR 113 n E ents vs ms
theorem FR.mk {n:Nat} {E:List Arc} {bT bx bd:Nat} {d:List Int} {T:List (Option Int)} {m mt:Seg} (h:FR0 n bT bx bd d T m) (O:TblR n E bT mt):FR n E bT bx bd d T ([m,mt]:List Seg).flatten:=by
 obtain ⟨bH,hm,hp,J⟩:=h
 obtain ⟨ents,c,vs,ms,hq,F⟩:=O
 exact ⟨bH,hm,ents,c,vs,ms,by simpa using hp.append hq,J,F⟩
theorem FR.mk2 {n:Nat} {E:List Arc} {bT bx bd bH c:Nat} {d:List Int} {T:List (Option Int)} {hm:Seg} {ents:List (Int×Value×Nat)} {vs:List Value} {ms:List Seg} (J:HRep T bH hm) (F:LinkR 113 n E ents vs ms):
  FR n E bT bx bd d T ([[(bx,blk (h9 n bT bd (.pointer (some ⟨bH,0,none⟩))) 153)],[(bd,blk (fH d) 46)],hm,[(bT,e7 iM ents c)],ms.flatten]:List Seg).flatten:=⟨bH,hm,ents,c,vs,ms,List.Perm.refl _,J,F⟩
structure BU (n:Nat) (e:List Arc) (s t:Nat) (dx dy:List Int) (bst:Int):Prop where
 b0:0≤bst∧bst≤INF
 up:bst<INF→Wk e i4 s t bst
 low:∀ u,u<n→bst≤dg dx u+dg dy u
theorem BU.add {n:Nat} {E:List Arc} {back:Bool} {s t:Nat} {dx dx' dy X:List Int} {Ty:List (Option Int)} {oy:List Nat} {F m:Int} {u:Nat} (h:BU n (E.map (trn back)) s t dx dy F) (hy:SS n (E.map (trn (!back))) i4 t dy X Ty oy (RF (E.map (trn (!back))) oy)) (O:u<n) (hm:0≤m∧m≤INF) (hd:dg dx' u=m) (hw:m<INF→Wk (E.map (trn back)) i4 s u m) (ho:∀ w,w<n→w≠u→dg dx' w=dg dx w):BU n (E.map (trn back)) s t dx' dy (min F (gS m (dg dy u))):=by
 have hb:=h.b0
 have Y:=hy.rng u O
 have Z:0≤gS m (dg dy u)∧gS m (dg dy u)≤INF:=by unfold gS;split<;>omega
 refine ⟨aA,fun hlt=>?_,fun w J=>?_⟩
 ·rcases Int.le_total F (gS m (dg dy u)) with h1|h1
  ·rw [Int.min_eq_left h1] at hlt ⊢;exact h.up hlt
  ·rw [Int.min_eq_right h1] at hlt ⊢
   have e:=dadd_lt hlt (Int.le_refl _)
   rw [e] at hlt ⊢;have U:=(hy.walk u O aA).turn
   rw [Bool.not_not] at U;exact (hw aA).trans U
 ·by_cases e:w=u
  ·subst e;have:=dadd_le m (dg dy w);omega
  ·rw [ho w J e];have:=h.low w J;omega
theorem LkOk.trn {n:Nat} {E:List Arc} (h:LkOk n E) (b:Bool):LkOk n (E.map (trn b)):=fun x hx=>by
 obtain ⟨y,hy,rfl⟩:=List.mem_map.1 hx
 have:=h y hy
 cases b
 ·exact this
 ·exact ⟨this.2.1,this.1,this.2.2⟩
def QNextΦ (n:Nat) (E:List Arc) (back:Bool) (s t bT bx bd Y bY U:Nat) (dx xx:List Int) (Tx:List (Option Int)) (ox:List Nat) (dy yy:List Int) (Ty:List (Option Int)) (oy:List Nat) (u:Value) (own:List Seg):Prop:=
 ∃ (ok:Bool) (a best:Int) (O X:List Int) (F:List (Option Int)) (J:List Nat) (mx Z:Seg),u= .tuple #[.int .u64 a,.int .u64 best,.bool ok]∧own=[mx,Z]∧FR n (E.map (trn back)) bT bx bd O F mx∧FR n (E.map (trn (!back))) Y bY U dy Ty Z∧
  Both n E i4 back s t O X F J dy yy Ty oy best∧(ok=false→topR F=none)∧(ok=true→(∀ (u:Nat) (x:Int),F[u]? =some (some x)→a≤x)∧free n J<free n ox)∧free n J≤free n ox∧0≤a∧a≤INF
theorem steps_spec (ents:List (Int×Value×Nat)) (c bT v:Nat) (w:World) (hw:Owns w [[(bT,e7 iM ents c)]]):
    Meets Tryz.prog 216 [.map (some bT),.int .i64 (v:Int)] w [[(bT,e7 iM ents c)]] (fun u own' =>u=(eR ents (v:Int)).getD (.slice none 0 0)∧own' =[[(bT,e7 iM ents c)]]):=by
 refine bE Tryz.func216 rfl Tryz.ntmps216 rfl hw<|aG fun kh1=>aB 1 rfl<|aD kh1<|aG fun kh2=>aB 2 rfl<|f_Q (fD pN Tryz.zeroValue114 rfl rfl rfl _ rfl)<|aB 1 rfl<|aD kh2<|aY ?_
 exact bJ [[(bT,e7 iM ents c)]] Tryz.results216 rfl aC ⟨rfl,rfl⟩
theorem kK (n bT s:Nat) (ad:1≤n∧n≤1024) (hs:s<n) (Af:Option Addr) (cf:Nat) (w:World) (hf:Ro (Fr w []) w Af [.int .i64 (s:Int),.int .u64 0]):
    Meets Tryz.prog 53 [.iface 103 (.map (some bT)),.int .i64 (n:Int),.slice Af 1 cf] w [] (fun u own' =>∃ bx bd m,u= .pointer (some ⟨bx,0,none⟩)∧own' =[m]∧FR0 n bT bx bd (D0 n s) (T0 n s) m):=by
 obtain ⟨bf,of,rfl,U,O⟩:=hf aN
 refine bE Tryz.func53 rfl Tryz.ntmps53 rfl Owns.nil<|aG fun kh1=>aB 1 rfl<|aD kh1<|aG fun kh2=>aB 1 rfl<|f_S (bQ q6 aA rfl rfl rfl fun b11=>?_)
 refine aB 1 rfl ?_;refine f_S (aV Tryz.call26 rfl (fun w_ hp_=>i2 b11 0 1 n 18446744073709551615 w_ (fP (b:=b11) hp_ (cs:=[.int .u64 18446744073709551615]) (fun j v hj=>hj)) aA) ?_);rintro _ _ ⟨bd,rfl,rfl⟩;dsimp only [aK,aJ];refine f_Q (dL (cs:=h9 n bT bd (.pointer none)) st153 rfl (by kernel_rfl)) ?_;refine f_S (cT rfl rfl fun F=>?_);refine aB 1 rfl<|aD kh2<|aG fun kh3=>aB 2 rfl ?_
 refine f_S (aV Tryz.call64 rfl (fun w_ hp_=>New_spec (n:Int) w_) ?_);rintro _ _ hN;rw [NewΦ,if_neg aA,Int.toNat_natCast] at hN;obtain ⟨bH,ab,rfl,rfl,X⟩:=hN
 dsimp only [aK,aJ];refine aB 3 rfl<|f_Q (dH rfl)<|cL fa153_2 rfl<|f_Z (bU Tryz.sizeOf79 rfl rfl rfl rfl cF (h9 n bT bd (.pointer (some ⟨bH,0,none⟩))) rfl ?_)
 refine aD kh3<|aS fun kh4=>aG fun Z=>aB 1 rfl<|dU sl114 rfl<|aB 1 rfl<|aD Z<|aR ?_
 refine dA (α:=Nat×List Int×List (Option Int)×Seg) [7,24,25] (fun ⟨k,d,T,hm⟩=>[(26,.int .i64 (k:Int))]) (fun ⟨k,d,T,hm⟩=>[[(F,blk (h9 n bT bd (.pointer (some ⟨bH,0,none⟩))) 153)],[(bd,blk (fH d) 46)],hm]) (fun ⟨k,d,T,hm⟩=>k≤1∧d.length=n∧HRep T bH hm∧(k=0→d=List.replicate n INF∧T=List.replicate n none)∧(k=1→d=D0 n s∧T=T0 n s)) (fun ⟨k,d,T,hm⟩=>1 - k) (0,List.replicate n INF,List.replicate n none,ab) ?_ ?_ ?_ ?_
 · exact aF
 · dsimp only
   rw [← u64s_rep];exact aC
 · exact ⟨aA,aN,X,fun _=>⟨rfl,rfl⟩,fun h=>aA⟩
 ·
  rintro ⟨k,d,T,hm⟩ ⟨ae,Y,hH,h0,h1⟩;refine aG fun kh6=>aB 1 rfl<|aD kh6<|aS fun kh7=>aX rfl (fun aa=>?_) (fun aa=>?_)
  ·
   obtain rfl:k=0:=aA
   obtain ⟨rfl,ac⟩:=h0 rfl
   refine bV kh7<|aS fun kh8=>aR<|aG fun kh9=>f_Q (aL sl114 rfl rfl (of))<|f_Q (aO (vs:=[.int .i64 (s:Int),.int .u64 0]) Tryz.isAgg113 Tryz.sizeOf113 rfl rfl ⟨(rdS U (by have:=O 0 _ rfl;simpa using this)),(rdS U (O 1 _ rfl)),trivial⟩) ?_
   refine f_S (cQ Tryz.zeroValue113 rfl fun b9=>?_);refine f_Z (bP Tryz.sizeOf113 rfl rfl rfl rfl cF _ rfl ?_);refine aD kh9<|aS fun kh10=>gV rfl aW<|dB (aT fa113_1 rfl)<|gC Tryz.isAgg46 rfl (rdA rfl)<|dI 1 rfl<|dB (dH rfl)<|dB (aT fa153_1 rfl)<|gC Tryz.isAgg41 rfl (rdA rfl)<|dB (aT qY rfl) ?_
   refine gC Tryz.isAgg3 rfl (rdA rfl)<|dB (aL mS rfl rfl (s))<|dB (aH Tryz.isAgg46 rfl (rdA (mQ (x:=INF) (by rw [List.getElem?_replicate,if_pos hs])))) ?_
   refine dI 1 rfl<|eI<|bO kh10<|f_condY rfl (by decide) ?_
   refine aS fun J=>c7 [[(F,blk (h9 n bT bd (.pointer (some ⟨bH,0,none⟩))) 153)],[(b9,blk [.int .i64 (s:Int),.int .u64 0] 113)]] rfl<|f_T 0 rfl (aU rfl)<|f_T 1 rfl (dH rfl)<|f_T 2 rfl (aT fa153_1 rfl)<|f_T 3 rfl (aH Tryz.isAgg41 rfl (rdA rfl))<|f_T 4 rfl (aT qY rfl)<|f_T 5 rfl (aH Tryz.isAgg3 rfl (rdA rfl))<|f_T 6 rfl (aT fa113_1 rfl)<|f_T 7 rfl (aH Tryz.isAgg46 rfl (rdA rfl)) ?_
   refine f_T 8 rfl (aL mS rfl rfl (s))<|fZ 9 rfl (bU Tryz.sizeOf46 rfl rfl rfl rfl (by rw [iE,Y];omega) (fH (D0 n s)) (oY _ _ _) ⟨aC,?_⟩)
   refine cU aW<|bO J<|c7 [[(F,blk (h9 n bT bd (.pointer (some ⟨bH,0,none⟩))) 153)],[(b9,blk [.int .i64 (s:Int),.int .u64 0] 113)]] rfl<|f_T 0 rfl (aU rfl)<|f_T 1 rfl (dH rfl)<|f_T 2 rfl (aT fa153_2 rfl)<|f_T 3 rfl (aH Tryz.isAgg79 rfl (rdA rfl))<|f_T 4 rfl (aT qY rfl)<|f_T 5 rfl (aH Tryz.isAgg3 rfl (rdA rfl))<|f_T 6 rfl (aT fa113_1 rfl) ?_
   refine f_T 7 rfl (aH Tryz.isAgg46 rfl (rdA rfl)) ?_;refine f_O 8 rfl (d4 [hm] _ Tryz.call65 rfl (by repeat (first|exact Sub.refl|refine aM ?_)) (fun w_ hp_=>lL (List.replicate n none) bH hm (s:Int) 0 w_ (by rw [← ac];exact hH) hp_.owns) ?_);rintro _ _ ⟨rfl,hm2,rfl,hH2⟩;rw [looks_new hs] at hH2;dsimp only [aK,aJ];refine ⟨aC,?_⟩;refine cU aW<|dF<|bO kh8<|aI<|f_Q (a8 rfl rfl)<|aB 1 rfl<|aZ ?_
   refine cS (a6 (1,D0 n s,T0 n s,hm2) (by first|omega|(dsimp only;omega)|(simp;omega)) ⟨aA,by simp [D0],hH2,fun h=>aA,fun _=>⟨rfl,rfl⟩⟩ ?_ ?_ ?_)
   · exact aF
   · exact aF
   · exact aC
  ·
   obtain rfl:k=1:=aA
   obtain ⟨rfl,rfl⟩:=h1 rfl
   refine cN<|cO<|cO<|eC<|bO kh4<|aG fun kh12=>aB 2 rfl<|aD kh12<|aY ?_
   exact bJ [([[(F,blk (h9 n bT bd (.pointer (some ⟨bH,0,none⟩))) 153)],[(bd,blk (fH (D0 n s)) 46)],hm]:List Seg).flatten] Tryz.results53 rfl (Sub.flatF (out:=[[(F,blk (h9 n bT bd (.pointer (some ⟨bH,0,none⟩))) 153)],[(bd,blk (fH (D0 n s)) 46)],hm]) aC) ⟨F,bd,_,rfl,rfl,bH,hm,List.Perm.refl _,hH⟩
theorem qnext_spec (n:Nat) (b9:1≤n∧n≤1024) (E:List Arc) (hE:LkOk n E) (back:Bool) (s t bT bx J U bY O:Nat) (dx xx:List Int) (Tx:List (Option Int)) (ox:List Nat) (dy yy:List Int) (Ty:List (Option Int)) (oy:List Nat) (best:Int) (mx my:Seg) (w:World)
    (hB:Both n E i4 back s t dx xx Tx ox dy yy Ty oy best) (bB:FR n (E.map (trn back)) bT bx J dx Tx mx) (bK:FR n (E.map (trn (!back))) U bY O dy Ty my) (hw:Owns w [mx,my]):
    Meets Tryz.prog 80 [.pointer (some ⟨bx,0,none⟩),.pointer (some ⟨bY,0,none⟩),.int .u64 best] w [mx,my] (QNextΦ n E back s t bT bx J U bY O dx xx Tx ox dy yy Ty oy):=by
 have aw:=hE.trn back
 have bf:=aw.wt
 have be:=aw.dst
 have b5:=hB.y.ld
 refine bE Tryz.func80 rfl Tryz.ntmps80 rfl hw ?_;obtain ⟨Z,an,F,cx,b6,ap,bp,b3,ax⟩:=bB
 refine eP (Sub.openAt (m:=mx) bp) ?_;dsimp only [aK,aJ];obtain ⟨ah,ai,Y,cY,ce,ak,bq,bk,a2⟩:=bK
 refine eP (Sub.openAt (m:=my) bq) ?_;dsimp only [aK,aJ];refine aG fun kh1=>aB 3 rfl<|aD kh1<|aG fun kh2=>aB 1 rfl<|f_Q (dH rfl)<|cL fa153_2 rfl<|cX Tryz.isAgg79 rfl (rdA rfl) ?_
 refine f_S (d4 [an] _ Tryz.call67 rfl (by repeat (first|exact Sub.refl|refine aM ?_)) (fun w_ hp_=>HPop_spec Tx Z an w_ b3 hp_.owns) ?_);rintro _ _ ⟨rfl,hm2,rfl,ao⟩;dsimp only [aK,aJ];refine aB 7 rfl<|aD kh2<|aS fun kh3=>aG fun kh4=>aB 2 rfl<|aD kh4<|aX rfl (fun c25=>?_) (fun c25=>?_)
 ·have aj:topR Tx=none:=by
    cases e' :topR Tx with
    |none=>rfl
    |some q=>obtain ⟨v,a⟩:=q;rw [lB e'] at c25;exact absurd rfl c25
  rw [popT_none aj] at ao;refine aG fun bL=>aB 4 rfl<|aD bL<|aY<|cV ?_
  exact kH [([[(bx,blk (h9 n bT J (.pointer (some ⟨Z,0,none⟩))) 153)],[(J,blk (fH dx) 46)],hm2,[(bT,e7 iM F cx)],ap.flatten]:List Seg).flatten,([[(bY,blk (h9 n U O (.pointer (some ⟨ah,0,none⟩))) 153)],[(O,blk (fH dy) 46)],ai,[(U,e7 iM Y cY)],ak.flatten]:List Seg).flatten] Tryz.results80 rfl rfl rfl (Sub.flatTwo (out1:=[[(bx,blk (h9 n bT J (.pointer (some ⟨Z,0,none⟩))) 153)],[(J,blk (fH dx) 46)],hm2,[(bT,e7 iM F cx)],ap.flatten]) (out2:=[[(bY,blk (h9 n U O (.pointer (some ⟨ah,0,none⟩))) 153)],[(O,blk (fH dy) 46)],ai,[(U,e7 iM Y cY)],ak.flatten]) (by dsimp only [aK,aJ];repeat first|exact aP|refine aM ?_|refine cE rfl ?_|refine fU ?_)) ⟨false,0,best,dx,xx,Tx,ox,_,_,rfl,rfl,FR.mk2 ao ax,FR.mk2 bk a2,hB,fun _=>aj,fun h=>by (cases h),Nat.le_refl _,by decide,by decide⟩
 ·obtain ⟨v,a,ht⟩:∃ v a,topR Tx=some (v,a):=by
    cases e' :topR Tx with
    |none=>rw [topA_none e'] at c25;exact absurd (by decide) c25
    |some q=>exact ⟨q.1,q.2,rfl⟩
  rw [lB ht];rw [popT_some ht] at ao;obtain ⟨a1,ag,bv,al,hai,am⟩:=NX.start hB.x ht
  obtain ⟨val,rm,rG,bj,bc,bg,_⟩:=ax.split ag
  have b4:=outs_len (E.map (trn back)) v
  obtain ⟨Ar,cr,rfl,b8⟩:=bc.val
  have bW:BU n (E.map (trn back)) s t dx dy (min best (gS a (dg dy v))):=BU.add ⟨hB.b0,hB.up,hB.low⟩ hB.y ag ⟨am,Int.le_of_lt hai⟩ al (fun h=>by have:=hB.x.walk v ag (by rw [al];exact h);rwa [al] at this) (fun w _ _=>rfl)
  refine eP (Sub.splitF bg)<|bV kh3<|aG fun kh6=>aB 3 rfl<|f_Q (dH rfl)<|cL fa153_1 rfl<|cX Tryz.isAgg41 rfl (rdA rfl)<|aB 1 rfl<|f_Q (aL mS rfl rfl (v))<|f_Q (aH Tryz.isAgg46 rfl (rdA (mQ (dg_at aA)))) ?_;refine f_S (aV Tryz.call31 rfl (fun w_ hp_=>p4 a (dg dy v) w_ ⟨am,Int.le_of_lt hai⟩ (hB.y.rng v ag)) ?_);rintro _ _ ⟨rfl,rfl⟩;dsimp only [aK,aJ];refine f_Q (o_min rfl rfl)<|aB 1 rfl<|aD kh6<|aS fun kh7=>aG fun bD=>aB 1 rfl<|f_Q (dH rfl)<|cL fa153_0 rfl<|cX Tryz.isAgg151 rfl (rdA rfl)<|aB 1 rfl ?_
  refine f_S (i8 [[(bT,e7 iM F cx)]] _ (inv_steps (some bT)) rfl rfl (by repeat (first|exact Sub.refl|refine aM ?_)) (fun w_ hp_=>steps_spec F cx bT v w_ hp_.owns) ?_);rintro _ _ ⟨rfl,rfl⟩;rw [bj];dsimp only [aK,aJ];refine dU sl114 rfl<|aB 1 rfl<|aD bD<|aR ?_
  refine dA (α:=Nat×List Int×List Int×List (Option Int)×Seg×Int) [0,1,10,43,44] (fun ⟨j,d',ac,T',X,aa⟩=>[(45,.int .i64 (j:Int)),(2,.int .u64 aa)]) (fun ⟨j,d',ac,T',X,aa⟩=>[[(bx,blk (h9 n bT J (.pointer (some ⟨Z,0,none⟩))) 153)],[(J,blk (fH d') 46)],X,[(bT,e7 iM F cx)],rm,rG,[(bY,blk (h9 n U O (.pointer (some ⟨ah,0,none⟩))) 153)],[(O,blk (fH dy) 46)],ai,[(U,e7 iM Y cY)],ak.flatten]) (fun ⟨j,d',ac,T',X,aa⟩=>j≤(g4 (E.map (trn back)) v).length∧NX n (E.map (trn back)) i4 s dx v a ox j d' ac T'∧HRep T' Z X∧BU n (E.map (trn back)) s t d' dy aa) (fun ⟨j,d',ac,T',X,aa⟩=>(g4 (E.map (trn back)) v).length - j) (0,dx,xx,Tx.set v none,hm2,min best (gS a (dg dy v))) ?_ ?_ ?_ ?_
  ·exact aF
  ·exact aC
  ·exact ⟨Nat.zero_le _,a1,ao,bW⟩
  ·rintro ⟨j,d',ac,T',X,aa⟩ ⟨b7,ad,ay,ab⟩;refine aG fun kh9=>aB 1 rfl<|aD kh9<|aS fun kh10=>aX rfl (fun b1=>?_) (fun b1=>?_)
   ·have hj:j<(g4 (E.map (trn back)) v).length:=aA
    obtain ⟨i,hi,az,ba,ar,bC⟩:=outs_at hj
    have bR:=aw _ (List.getElem_mem hi)
    obtain ⟨u,hu,ae⟩:∃ u:Nat,(E.map (trn back))[i].dst=(u:Int)∧u<n:=⟨(E.map (trn back))[i].dst.toNat,aA,aA⟩
    have hud:(E.map (trn back))[i].dst.toNat=u:=aA
    obtain ⟨br,cd,rfl,rfl⟩:=bc.at_ aA
    refine bV kh10<|aS fun kh11=>aR<|aG fun kh12=>f_Q (aL sl114 rfl rfl (j*2))<|f_Q (aO (vs:=lkCs (E.map (trn back))[i]) Tryz.isAgg113 Tryz.sizeOf113 rfl rfl (by rw [← bC];exact jL lkCs_len hj)) ?_
    refine f_S (cQ Tryz.zeroValue113 rfl fun au=>?_);refine f_Z (bP Tryz.sizeOf113 rfl rfl rfl rfl cF (lkCs (E.map (trn back))[i]) rfl ?_);refine aD kh12<|aG fun kh13=>aB 1 rfl<|cL fa113_1 rfl<|cX Tryz.isAgg46 rfl (rdA rfl) ?_
    refine f_S (aV Tryz.call31 rfl (fun w_ hp_=>p4 a (E.map (trn back))[i].wt w_ ⟨am,Int.le_of_lt hai⟩ bR.2.2) ?_);rintro _ _ ⟨rfl,rfl⟩;dsimp only [aK,aJ];refine aB 1 rfl<|aD kh13<|aS fun kh14=>gV rfl aW<|dI 2 rfl<|dB (dH rfl)<|dB (aT fa153_1 rfl)<|gC Tryz.isAgg41 rfl (rdA rfl)<|dB (aT qY rfl)<|gC Tryz.isAgg3 rfl (rdA rfl) ?_
    refine dB (aL mS rfl rfl (u))<|dB (aH Tryz.isAgg46 rfl (rdA (mQ (dg_at (by rw [ad.ss.ld];exact ae))))) ?_;refine dI 1 rfl<|eI<|bO kh14<|aX rfl (fun c62=>?_) (fun c62=>?_)
    ·have an:=(ad.ss.rng u ae).2
     have bM:=dadd_lt c62 an
     obtain ⟨aq,bh⟩:=ad.relax bf be az hi ba ar rfl hud (m:=(gS a (E.map (trn back))[i].wt)) bM c62
     have bw:u<d'.length:=by rw [ad.ss.ld];exact ae
     have bu:=dg_set bw (gS a (E.map (trn back))[i].wt)
     have av:dg (d'.set u (gS a (E.map (trn back))[i].wt)) u=(gS a (E.map (trn back))[i].wt):=by rw [bu,if_pos rfl]
     have bi:=ab.add (dx' :=d'.set u (gS a (E.map (trn back))[i].wt)) hB.y ae (m:=(gS a (E.map (trn back))[i].wt)) ⟨by unfold gS;split<;>omega,dadd_inf _ _⟩ av (fun h=>by have:=aq.ss.walk u ae (by rw [av];exact h);rwa [av] at this) (fun w _ hne=>by rw [bu,if_neg (fun e=>hne e.symm)])
     refine aS fun kh15=>c7 [[(bx,blk (h9 n bT J (.pointer (some ⟨Z,0,none⟩))) 153)],[(au,blk (lkCs (E.map (trn back))[i]) 113)]] rfl<|f_T 0 rfl (aU rfl)<|f_T 1 rfl (dH rfl)<|f_T 2 rfl (aT fa153_1 rfl)<|f_T 3 rfl (aH Tryz.isAgg41 rfl (rdA rfl))<|f_T 4 rfl (aT qY rfl)<|f_T 5 rfl (aH Tryz.isAgg3 rfl (rdA rfl))<|f_T 6 rfl (aU rfl)<|f_T 7 rfl (aL mS rfl rfl (u))<|fZ 8 rfl (bU Tryz.sizeOf46 rfl rfl rfl rfl (by rw [iE,ad.ss.ld];omega) (fH (d'.set u (gS a (E.map (trn back))[i].wt))) (oY _ _ _) ⟨aC,?_⟩)
     refine cU aW<|bO kh15<|aS fun kh16=>c7 [[(bx,blk (h9 n bT J (.pointer (some ⟨Z,0,none⟩))) 153)],[(au,blk (lkCs (E.map (trn back))[i]) 113)]] rfl<|f_T 0 rfl (aU rfl)<|f_T 1 rfl (dH rfl)<|f_T 2 rfl (aT fa153_2 rfl)<|f_T 3 rfl (aH Tryz.isAgg79 rfl (rdA rfl))<|f_T 4 rfl (aT qY rfl)<|f_T 5 rfl (aH Tryz.isAgg3 rfl (rdA rfl)) ?_
     refine f_T 6 rfl (aU rfl) ?_;refine f_O 7 rfl (d4 [X] _ Tryz.call65 rfl (by repeat (first|exact Sub.refl|refine aM ?_)) (fun w_ hp_=>(by have h:=lL T' Z X (u:Int) (gS a (E.map (trn back))[i].wt) w_ ay hp_.owns;rw [← hu] at h;exact h)) ?_);rintro _ _ ⟨rfl,b2,rfl,bt⟩;rw [hu,bh] at bt;dsimp only [aK,aJ];refine ⟨aC,?_⟩;refine cU aW<|bO kh16<|c7 [[(bY,blk (h9 n U O (.pointer (some ⟨ah,0,none⟩))) 153)],[(au,blk (lkCs (E.map (trn back))[i]) 113)],[(O,blk (fH dy) 46)]] rfl<|f_T 0 rfl (aU rfl)<|f_T 1 rfl (aU rfl)<|f_T 2 rfl (aU rfl)<|f_T 3 rfl (dH rfl)<|f_T 4 rfl (aT fa153_1 rfl)<|f_T 5 rfl (aH Tryz.isAgg41 rfl (rdA rfl))<|f_T 6 rfl (aT qY rfl) ?_
     refine f_T 7 rfl (aH Tryz.isAgg3 rfl (rdA rfl))<|f_T 8 rfl (aL mS rfl rfl (u))<|f_T 9 rfl (aH Tryz.isAgg46 rfl (rdA (mQ (dg_at aA)))) ?_
     refine f_O 10 rfl (aV Tryz.call31 rfl (fun w_ hp_=>p4 (gS a (E.map (trn back))[i].wt) (dg dy u) w_ ⟨by unfold gS;split<;>omega,dadd_inf _ _⟩ (hB.y.rng u ae)) ?_);rintro _ _ ⟨rfl,rfl⟩;dsimp only [aK,aJ];refine ⟨aC,?_⟩;refine f_T 11 rfl (o_min rfl rfl)<|f_O 12 rfl ((bI rfl).does ⟨aC,?_⟩)
     refine cU aW<|dF<|bO kh11<|aI<|f_Q (a8 rfl rfl)<|aB 1 rfl<|aZ ?_
     refine cS (a6 (j+1,d'.set u (gS a (E.map (trn back))[i].wt),ac.set u (i:Int),T'.set u (some (gS a (E.map (trn back))[i].wt)),b2,min aa (gS (gS a (E.map (trn back))[i].wt) (dg dy u))) (by first|omega|(dsimp only;omega)|(simp;omega)) ⟨aA,aq,bt,bi⟩ ?_ ?_ ?_)
     ·exact aF
     ·exact aF
     ·exact aC
    ·refine dY<|dF<|bO kh11<|aI<|f_Q (a8 rfl rfl)<|aB 1 rfl<|aZ ?_
     refine cS (a6 (j+1,d',ac,T',X,aa) (by first|omega|(dsimp only;omega)|(simp;omega)) ⟨aA,ad.skipQ az hi ba ar hud c62,ay,ab⟩ ?_ ?_ ?_)
     ·exact aF
     ·exact aF
     ·exact aC
   ·refine cN<|cO<|cO<|eC<|bO kh7<|aG fun kh17=>aB 5 rfl<|aD kh17<|aY ?_
    exact kH [([[(bx,blk (h9 n bT J (.pointer (some ⟨Z,0,none⟩))) 153)],[(J,blk (fH d') 46)],X,[(bT,e7 iM F cx)],ap.flatten]:List Seg).flatten,([[(bY,blk (h9 n U O (.pointer (some ⟨ah,0,none⟩))) 153)],[(O,blk (fH dy) 46)],ai,[(U,e7 iM Y cY)],ak.flatten]:List Seg).flatten] Tryz.results80 rfl rfl rfl (Sub.transF (Sub.joinF (m:=rm) (G' :=rG) bg.symm) (Sub.flatTwo (out1:=[[(bx,blk (h9 n bT J (.pointer (some ⟨Z,0,none⟩))) 153)],[(J,blk (fH d') 46)],X,[(bT,e7 iM F cx)],ap.flatten]) (out2:=[[(bY,blk (h9 n U O (.pointer (some ⟨ah,0,none⟩))) 153)],[(O,blk (fH dy) 46)],ai,[(U,e7 iM Y cY)],ak.flatten]) (by dsimp only [aK,aJ];repeat first|exact aP|refine aM ?_|refine cE rfl ?_|refine fU ?_))) ⟨true,a,aa,d',ac,T',v::ox,_,_,rfl,rfl,FR.mk2 ay ax,FR.mk2 bk a2,⟨ad.done aA,hB.y,ab.b0,ab.up,ab.low⟩,fun h=>by (cases h),fun _=>⟨ad.ta,pS ag bv⟩,Nat.le_of_lt (pS ag bv),am,Int.le_of_lt hai⟩
theorem qmeet_spec (n:Nat) (ae:1≤n∧n≤1024) (E:List Arc) (hE:LkOk n E) (s t:Nat) (hs:s<n) (ht:t<n) (bq:s≠t) (bT bx U Y bY X:Nat) (Z O:Seg) (w:World)
    (bc:FR n (E.map (trn false)) bT bx U (D0 n s) (T0 n s) Z) (a1:FR n (E.map (trn true)) Y bY X (D0 n t) (T0 n t) O) (hw:Owns w [Z,O]):
    Meets Tryz.prog 52 [.pointer (some ⟨bx,0,none⟩),.pointer (some ⟨bY,0,none⟩),.int .u64 18446744073709551615] w [Z,O] (fun u own' =>∃ x,u= .int .u64 x∧own' =[]∧IsB E i4 s t x):=by
 have bp:=SS_begin (e:=E.map (trn false)) (p:=i4) hs
 have bi:=SS_begin (e:=E.map (trn true)) (p:=i4) ht
 have bj:Both n E i4 false s t (D0 n s) (B0 n) (T0 n s) [] (D0 n t) (B0 n) (T0 n t) [] INF:=by
   refine ⟨bp,bi,by decide,fun h=>aA,fun u hu=>?_⟩;rw [D0_dg hs hu,D0_dg ht hu];have hI:(0:Int)≤INF:=by decide
   by_cases e1:s=u
   ·rw [if_pos e1,if_neg (fun e2=>bq (e1.trans e2.symm))];omega
   ·rw [if_neg e1];split<;>omega
 have ac:∀ (b:Bool) i (h:i<(E.map (trn b)).length),(E.map (trn b))[i].dst.toNat<n:=fun b=>(hE.trn b).dst
 have ab:∀ (b:Bool),∀ x∈E.map (trn b),0≤x.wt:=fun b=>(hE.trn b).wt
 have aq:=fun b=>(hE.trn b).src
 refine bE Tryz.func52 rfl Tryz.ntmps52 rfl hw<|aG fun kh1=>aB 1 rfl<|aD kh1<|aR ?_
 refine dA (α:=List Int×List Int×List (Option Int)×List Nat×List Int×List Int×List (Option Int)×List Nat×Int×Seg×Seg) [0,1] (fun ⟨dx,xx,Tx,ox,dy,yy,Ty,oy,best,mx,my⟩=>[(2,.int .u64 best)]) (fun ⟨dx,xx,Tx,ox,dy,yy,Ty,oy,best,mx,my⟩=>[mx,my]) (fun ⟨dx,xx,Tx,ox,dy,yy,Ty,oy,best,mx,my⟩=>Both n E i4 false s t dx xx Tx ox dy yy Ty oy best∧FR n (E.map (trn false)) bT bx U dx Tx mx∧FR n (E.map (trn true)) Y bY X dy Ty my) (fun ⟨dx,xx,Tx,ox,dy,yy,Ty,oy,best,mx,my⟩=>free n ox+free n oy) (D0 n s,B0 n,T0 n s,[],D0 n t,B0 n,T0 n t,[],INF,Z,O) ?_ ?_ ?_ ?_
 ·exact aF
 ·exact aC
 ·exact ⟨bj,bc,a1⟩
 ·rintro ⟨dx,xx,Tx,ox,dy,yy,Ty,oy,best,mx,my⟩ ⟨hB,bk,bg⟩;refine aR<|aG fun kh2=>aB 3 rfl ?_
  refine f_S (d4 [mx,my] _ Tryz.call80 rfl (by repeat (first|exact Sub.refl|refine aM ?_)) (fun w_ hp_=>qnext_spec n ae E hE false s t bT bx U Y bY X dx xx Tx ox dy yy Ty oy best mx my w_ hB bk bg hp_.owns) ?_);rintro _ _ ⟨ok,a,aa,ap,ao,am,aj,al,ak,rfl,rfl,an,ag,av,az,ad,bt,ah⟩;dsimp only [aK,aJ];refine aB 7 rfl<|aD kh2<|aG fun kh3=>aB 3 rfl ?_
  refine f_S (d4 [ak,al] _ Tryz.call80 rfl (by repeat (first|exact Sub.refl|refine aM ?_)) (fun w_ hp_=>qnext_spec n ae E hE true t s Y bY X bT bx U dy yy Ty oy ap ao am aj aa ak al w_ av.swap ag an hp_.owns) ?_);rintro _ _ ⟨is,b,F,ay,be,ba,ax,bf,a2,rfl,rfl,ai,ar,J,aw,bh,bu,au⟩;dsimp only [aK,aJ];refine aB 7 rfl<|aD kh3<|aG fun kh4=>aB 2 rfl<|aD kh4<|aG fun kh5=>aB 3 rfl<|m4 31 rfl (fun g31=>?_) (fun g31=>?_)
  ·refine aB 10 rfl<|aD kh5<|fI rfl<|aG fun kh6=>aB 2 rfl<|aD kh6<|aY<|fA<|cV<|fA ?_
   have hD:=av.x.done (az (by simpa using g31)) (aq _) (ac _) (ab _)
   exact bJ [] Tryz.results52 rfl aP ⟨F,rfl,rfl,by have h:=J.swap.over ht hD;rwa [Bool.not_true,nB] at h⟩
  ·refine aB 4 rfl<|m4 35 rfl (fun g35=>?_) (fun g35=>?_)
   ·refine aB 6 rfl<|aD kh5<|fI rfl<|aG fun kh7=>aB 2 rfl<|aD kh7<|aY<|fA<|cV<|fA ?_
    have hD:=J.x.done (aw (by simpa using g35)) (aq _) (ac _) (ab _)
    exact bJ [] Tryz.results52 rfl aP ⟨F,rfl,rfl,by have h:=(J.over hs hD).turn;rwa [Bool.not_true,nB] at h⟩
   ·refine aB 2 rfl ?_;refine jY rfl rfl rfl rfl rfl (aV Tryz.call31 rfl (fun w_ hp_=>p4 a b w_ ah au) ?_);rintro _ _ ⟨rfl,rfl⟩;dsimp only [aK,aJ];refine aB 3 rfl<|aD kh5<|aX rfl (fun c41=>?_) (fun c41=>?_)
    ·refine aG fun br=>aB 2 rfl<|aD br<|aY<|fA<|cV<|fA ?_
     exact bJ [] Tryz.results52 rfl aP ⟨F,rfl,rfl,by have h:=J.swap.stop (fun b=>ac b) (fun b=>ab b) hs ht ah.2 au.2 (ad (by simpa using g31)).1 (bh (by simpa using g35)).1 c41;rwa [Bool.not_true,nB] at h⟩
    ·refine dY<|dF ?_
     refine cS (a6 (ap,ao,am,aj,ay,be,ba,ax,F,a2,bf) (by have:=(ad (by simpa using g31)).2;dsimp only;omega) ⟨J.swap,ar,ai⟩ ?_ ?_ ?_)
     ·exact aF
     ·exact aF
     ·exact aC
theorem NestRo.upF {S:Nat→Prop} {w0 w:World} {own fr:List Seg} {F J:Option Addr} {bs:List Int} {R:List Row} (h:NestRo S w0 F bs J R) (hp:Hp S w0 (own++fr).flatten w):NestRo (Fr w own) w F bs J R:=
 ⟨h.b.up hp,h.bl,h.c.up hp,h.cl,fun r hr=>⟨(h.rows r hr).1.up hp,(h.rows r hr).2⟩⟩
theorem NestRo.keepF {S:Nat→Prop} {w0 w' :World} {F J:Option Addr} {bs:List Int} {R:List Row} (h:NestRo S w0 F bs J R) (hlt:∀ b,S b→b<w0.heap.size) (hs:∀ k,S k→w'.heap[k]? =w0.heap[k]?):NestRo (Fr w' []) w' F bs J R:=
 ⟨ro_keep h.b hlt hs,h.bl,ro_keep h.c hlt hs,h.cl,fun r hr=>⟨ro_keep (h.rows r hr).1 hlt hs,(h.rows r hr).2⟩⟩
theorem GN.upF {S:Nat→Prop} {w0 w:World} {own fr:List Seg} {n:Nat} {A:Option Addr} {l:List Arc} {F:Option Addr} {bs:List Int} {J:Option Addr} {R:List Row} (h:GN S w0 n A l F bs J R) (hp:Hp S w0 (own++fr).flatten w):GN (Fr w own) w n A l F bs J R:=
 ⟨h.r.up hp,h.ok,h.ns.upF hp,h.o⟩
theorem OvRo.upF {S:Nat→Prop} {w0 w:World} {own fr:List Seg} {F:Option Addr} {O:List rC} (h:OvRo S w0 F O) (hp:Hp S w0 (own++fr).flatten w):OvRo (Fr w own) w F O:=
 ⟨h.o.up hp,h.ol,fun r hr=>⟨(h.rows r hr).1.up hp,(h.rows r hr).2⟩,fun r hr m hm=>(h.mats r hr m hm).up hp⟩
theorem TblR.nil (n b:Nat) (c:Bool):TblR n (([]:List Arc).map (trn c)) b [(b,e7 iM [] 0)]:=
 ⟨[],0,List.replicate n (.slice none 0 0),List.replicate n [],aN,LinkR.start _ _⟩
def pQ (L:List (List Int)) (s t K k:Nat) (v:Int):Bool:=decide (((atV L s t K v.toNat:Nat):Int)=(k:Int)+1)
theorem cqK_mem {l:List Arc} {Ls:List (List Int)} {p:Nat→Int→Bool} {J:List (List Mx)} {K:Nat} {a:Arc}:a∈cqK l Ls p J K↔∃ k,k<K∧∃ c,∃ h:c<(J.getD k []).length,p k (fstI (Ls.getD k []) (c:Int))=true∧a∈mxE (bdL (Ls.getD k []) (c:Int) l) (J.getD k [])[c].D (J.getD k [])[c].D.length:=by
 unfold cqK
 rw [List.mem_flatMap];constructor
 ·rintro ⟨k,hk,ha⟩
  unfold cqC at ha
  obtain ⟨c,hc,ha⟩:=List.mem_flatMap.1 ha
  have F:=List.mem_range.1 hc
  split at ha
  ·rename_i hp
   rw [List.getElem?_eq_getElem F,Option.getD_some] at ha;exact ⟨k,List.mem_range.1 hk,c,F,hp,ha⟩
  ·cases ha
 ·rintro ⟨k,hk,c,hc,hp,ha⟩
  refine ⟨k,List.mem_range.2 hk,?_⟩
  unfold cqC
  refine List.mem_flatMap.2 ⟨c,List.mem_range.2 hc,?_⟩;rw [if_pos hp,List.getElem?_eq_getElem hc,Option.getD_some];exact ha
theorem nest_lvs {n K:Nat} {l:List Arc} {bs:List Int} {Ls:List (List Int)} (h:NestOk n l bs Ls) (F:K=bs.length):Lvs n K Ls:=F▸
 ⟨fun k hk=>h.rowlen hk,fun k hk=>by have:=h.within hk aA;rwa [Nat.add_sub_cancel] at this⟩
theorem qy_e {n:Nat} {l:List Arc} {bs:List Int} {Ls:List (List Int)} {ep:Int} {U:List (List Mx)} {s t K:Nat} (hK:K=bs.length) (F:NestOk n l bs Ls) (hok:OvOk l Ls bs.length ep U) (hw:∀ x∈l,0≤x.wt∧x.wt≤4294967295):
  QyE n l Ls s t K (cqK l Ls (pQ Ls s t K) U bs.length++l.filter (qP Ls s t K))∧LkOk n (cqK l Ls (pQ Ls s t K) U bs.length++l.filter (qP Ls s t K)):=by
 subst hK;obtain ⟨_,_,_,hg⟩:=bS F.g
 have Z:∀ x∈l,0≤x.wt:=fun x hx=>(hw x hx).1
 have Y:∀ k,k<bs.length→∀ c (h:c<(U.getD k []).length),MatOk l (Ls.getD k []) (c:Int) (U.getD k [])[c].D:=fun k hk c hc=>by
  obtain ⟨h1,h2⟩:=hok.row k hk
  obtain ⟨x,hx,aa⟩:=h1 c aA
  rw [List.getElem?_eq_getElem hc] at hx;rw [Option.some.inj hx];exact aa.mat
 refine ⟨⟨fun a ha=>?_,fun k v hv ab x y m hx hy hwk hlt=>?_,fun a ha hq=>List.mem_append_right _ (List.mem_filter.2 ⟨ha,hq⟩)⟩,fun a ha=>?_⟩
 ·rcases List.mem_append.1 ha with ha|ha
  ·obtain ⟨k,hk,c,hc,_,ha⟩:=cqK_mem.1 ha
   exact .inl ⟨_,((Y k hk c hc).arc ha).2.2.2⟩
  ·exact .inr (List.mem_filter.1 ha).1
 ·have J:k<bs.length:=by have:=atV_le Ls s t bs.length v;omega
  have hl:=F.rowlen J
  have O:(Ls.getD k []).getD v 0∈Ls.getD k []:=by rw [eM aA];exact List.getElem_mem _
  have h1:=e5 (F.right J) F.n1.1 _ O
  have h2:=iI O
  have h3:=(hok.row k J).2
  obtain ⟨c,hc⟩:∃ c:Nat,(Ls.getD k []).getD v 0=(c:Int):=⟨((Ls.getD k []).getD v 0).toNat,aA⟩
  obtain ⟨v',hf,ac,he⟩:=fstI_in (L:=Ls.getD k []) (c:=(c:Int)) (hc▸O)
  have X:=atV_same (nest_lvs F rfl) hv aA ab (hc.trans he.symm)
  rw [hc] at hx hy hwk;obtain ⟨a,ha,hb⟩:=(Y k J c aA).over hx hy hwk hlt
  refine ⟨a,List.mem_append_left _ (cqK_mem.2 ⟨k,J,c,aA,?_,ha⟩),hb⟩;rw [hf];unfold pQ;rw [Int.toNat_natCast,X,decide_eq_true_eq];omega
 ·rcases List.mem_append.1 ha with ha|ha
  ·obtain ⟨k,hk,c,hc,_,ha⟩:=cqK_mem.1 ha
   exact (Y k hk c hc).lk hg Z ha
  ·have h1:=(List.mem_filter.1 ha).1
   have h2:=hw a h1
   obtain ⟨i,hi,rfl⟩:=List.mem_iff_getElem.1 h1
   have h3:=hg i hi
   exact ⟨aA,aA,h2.1,by unfold INF;omega⟩
theorem filter_next {p:Arc→Bool} {l:List Arc} {k:Nat} (hk:k<l.length):(l.take (k+1)).filter p=(l.take k).filter p++if p l[k]=true then [l[k]] else []:=by
 rw [List.take_succ_eq_append_getElem hk,List.filter_append]
 by_cases h:p l[k]=true
 ·rw [if_pos h];simp [h]
 ·rw [if_neg h];simp [h]
theorem qP_src {L:List (List Int)} {s t K:Nat} {a:Arc} {u:Nat} (F:a.src.toNat=u) (h:atV L s t K u=0):qP L s t K a=true:=by unfold qP;rw [F,h];rfl
theorem qP_lvl {L:List (List Int)} {s t K:Nat} {a:Arc} {u v:Nat} (F:a.src.toNat=u) (hv:a.dst.toNat=v) (h:atV L s t K u≠atV L s t K v):qP L s t K a=true:=by unfold qP;rw [F,hv,decide_eq_true h,Bool.true_or,Bool.or_true]
theorem qP_cell {L:List (List Int)} {s t K:Nat} {a:Arc} {u v k:Nat} (F:a.src.toNat=u) (hv:a.dst.toNat=v) (hk:atV L s t K u=k+1) (h:atV L s t K u=atV L s t K v):qP L s t K a=decide ((L.getD k []).getD u 0≠(L.getD k []).getD v 0):=by
 unfold qP
 rw [F,hv,decide_eq_false (p:=atV L s t K u=0) aA,decide_eq_false (p:=atV L s t K u≠atV L s t K v) (fun e=>e h),hk,Nat.add_sub_cancel];rfl
theorem Dist1_spec (X:Option Addr) (bs:List Int) (cb:Nat) (O:Option Addr) (R:List Row) (cc:Nat) (n s t k v b:Nat) (w:World) (h2:Ro (Fr w []) w (some ⟨b,0,none⟩) [.slice X bs.length cb,.slice O R.length cc,.int .i64 (s:Int),.int .i64 (t:Int)]) (hn:NestRo (Fr w []) w X bs O R) (hlen:∀ r∈R,r.2.1.length=n) (Y:R.length≤5) (hs:s<n) (ht:t<n) (hv:v<n):
    Meets Tryz.prog 49 ([.int .i64 ((k:Int)+1),.int .i64 (v:Int)]++[.pointer (some ⟨b,0,none⟩)]) w [] (fun x m=>x= .bool (pQ (bG R) s t R.length k (v:Int))∧m=[]):=by
 obtain ⟨U,Z,aa,J,F⟩:=h2 aN
 obtain ⟨rfl,rfl⟩:b=U∧0=Z:=by cases aa;exact ⟨rfl,rfl⟩
 refine bE Tryz.func49 rfl Tryz.ntmps49 rfl Owns.nil<|aG fun kh1=>aB 1 rfl<|aD kh1<|aG fun kh2=>f_Q (aO (vs:=[_,_,_,_]) Tryz.isAgg101 Tryz.sizeOf101 rfl rfl ⟨(rdS J (F 0 _ rfl)),(rdS J (F 1 _ rfl)),(rdS J (F 2 _ rfl)),(rdS J (F 3 _ rfl)),trivial⟩)<|aB 1 rfl ?_
 refine f_S (aV Tryz.call50 rfl (fun w_ ab=>qat_spec X bs cb O R cc n s t v w_ (hn.up0 ab) hlen Y hs ht hv) ?_);rintro _ _ ⟨rfl,rfl⟩;dsimp only [aK,aJ];refine aB 3 rfl<|aD kh2<|aY ?_
 exact bJ [] Tryz.results49 rfl aP ⟨by unfold pQ;rw [Int.toNat_natCast],rfl⟩
theorem qDist_spec (n:Nat) (A:Option Addr) (l:List Arc) (cap:Nat) (Ab:Option Addr) (bs:List Int) (cb:Nat) (Ac:Option Addr) (R:List Row) (cc:Nat) (Ao:Option Addr) (O:List rC) (co:Nat) (ep:Int) (s t:Nat) (w:World) (hG:GN (Fr w []) w n A l Ab bs Ac R) (hO:OvRo (Fr w []) w Ao O) (he:ep≤1073741824) (bf:OvOk l (bG R) bs.length ep (gJ O)) (hs:s<n) (ht:t<n):
    Meets Tryz.prog 17 [.agg #[.int .i64 (n:Int),.slice A l.length cap],.agg #[.slice Ab bs.length cb,.slice Ac R.length cc],.slice Ao O.length co,.int .i64 (s:Int),.int .i64 (t:Int)] w [] (fun u own' =>∃ x,u= .tuple #[.int .u64 x,.int .i64 0]∧own' =[]∧IsB l i4 s t x):=by
 have bR:=hG
 obtain ⟨hr,hok,hn,ab⟩:=bR
 obtain ⟨b4,b7,hlen,ap⟩:=bS ab.g
 have hl:l.length≤9223372036854775807:=aA
 have hN:I64 (n:Int):=by constructor<;>omega
 have ai:=ab.len
 rw [d5] at ai;have bL:=ab.many
 have hF:=bf.fit (SameEnds.refl l)
 have ad:∀ x∈l,0≤x.wt∧x.wt≤4294967295:=fun x hx=>(hok x hx).wt
 obtain ⟨hQ,aq⟩:=qy_e (s:=s) (t:=t) ai ab bf ad
 have ac:∀ r∈R,r.2.1.length=n:=fun r hr=>by
   obtain ⟨k,hk,rfl⟩:=List.mem_iff_getElem.1 hr
   rw [← iF hk];exact ab.rowlen aA
 have b3:=cqK_len (l:=l) (Ls:=bG R) (p:=pQ (bG R) s t R.length) (hF.small ab hlen) (k:=bs.length) (by rw [hF.len];exact Nat.le_refl _)
 refine bE Tryz.func17 rfl Tryz.ntmps17 rfl Owns.nil<|aG fun kh1=>f_S (cT rfl rfl fun b5=>?_)
 refine f_S (cT rfl rfl fun b6=>?_);refine aB 2 rfl<|aD kh1<|aS fun kh2=>aG fun kh3=>f_Q (aO (vs:=[_,_]) Tryz.isAgg24 Tryz.sizeOf24 rfl rfl ⟨(rdA rfl),(rdA rfl),trivial⟩)<|f_Q (aO (vs:=[_,_]) Tryz.isAgg34 Tryz.sizeOf34 rfl rfl ⟨(rdA rfl),(rdA rfl),trivial⟩)<|aB 3 rfl ?_
 refine f_S (aV Tryz.call47 rfl (fun w_ hp_=>qlooked_spec n A l cap Ab bs cb Ac R cc Ao O co ep s t w_ (hG.up0 hp_) (hO.up0 hp_) he hF hs ht) ?_);rintro _ _ ⟨rfl,rfl⟩;dsimp only [aK,aJ];refine aB 1 rfl<|aD kh3<|aG fun kh4=>aB 2 rfl<|aD kh4<|dX rfl aN<|bV kh2<|aS fun kh5=>aG fun bv=>aB 3 rfl ?_
 refine aD bv<|aX rfl (fun c30=>?_) (fun c30=>?_)
 ·obtain rfl:s=t:=aA
  refine aG fun bB=>aB 2 rfl<|aD bB<|aY<|cV ?_
  exact cZ [] Tryz.results17 rfl rfl aP ⟨0,rfl,rfl,by decide,fun _=> .nil,fun m hm=>hm.nonneg fun x hx=>(ad x hx).1⟩
 ·refine bV kh5<|aG fun kh8=>f_Q (aO (vs:=[_,_]) Tryz.isAgg34 Tryz.sizeOf34 rfl rfl ⟨(rdA rfl),(rdA rfl),trivial⟩)<|aB 2 rfl<|f_Q (dL (cs:=[.slice Ab bs.length cb,.slice Ac R.length cc,.int .i64 (s:Int),.int .i64 (t:Int)]) st101 rfl (by kernel_rfl)) ?_
  refine f_S (cQ Tryz.zeroValue101 rfl fun ae=>?_);refine f_Z (bP Tryz.sizeOf101 rfl rfl rfl rfl cF [.slice Ab bs.length cb,.slice Ac R.length cc,.int .i64 (s:Int),.int .i64 (t:Int)] rfl ?_);refine aD kh8<|aG fun kh9=>f_S (iU fun U=>?_)
  refine f_S (iU fun J=>?_);refine f_Q (dL (cs:=[.map (some U),.map (some J)]) st105 rfl (by kernel_rfl)) ?_;refine f_S (cQ Tryz.zeroValue105 rfl fun av=>?_);refine f_Z (bP Tryz.sizeOf105 rfl rfl rfl rfl cF [.map (some U),.map (some J)] rfl ?_);refine aD kh9<|aS fun kh10=>aG fun kh11=>f_Q (aO (vs:=[_,_]) Tryz.isAgg105 Tryz.sizeOf105 rfl rfl ⟨(rdA rfl),(rdA rfl),trivial⟩)<|f_Q (aO (vs:=[_,_]) Tryz.isAgg24 Tryz.sizeOf24 rfl rfl ⟨(rdA rfl),(rdA rfl),trivial⟩)<|f_Q (aO (vs:=[_,_]) Tryz.isAgg34 Tryz.sizeOf34 rfl rfl ⟨(rdA rfl),(rdA rfl),trivial⟩)<|aB 1 rfl<|f_Q (kT rfl rfl) ?_
  refine f_S (d4 [[(U,e7 iM [] 0)],[(J,e7 iM [] 0)]] _ Tryz.call48 rfl (by repeat (first|exact Sub.refl|refine aM ?_|refine cE rfl ?_)) (fun w_ hp_=>cliques_spec n A l cap Ab bs cb Ac R cc Ao O co ep U J _ _ (pQ (bG R) s t R.length) 49 [.pointer (some ⟨ae,0,none⟩)] w_ (hG.upF hp_) (hO.upF hp_) hF (TblR.nil n U false) (TblR.nil n J true) Tryz.call49 (fun w' ay k v hk hv=>by have h:=Dist1_spec Ab bs cb Ac R cc n s t k v ae w' (heldIn hp_ ay) (hn.keepF hp_.lt (hp_.chain ay)) ac aA hs ht hv;exact h) hp_.owns) ?_);rintro _ _ ⟨m1,m2,rfl,rfl,bC,bK⟩;dsimp only [aK,aJ];refine aB 1 rfl<|aD kh11<|aG fun kh12=>aB 2 rfl<|aD kh12<|dX rfl aN<|bV kh10<|aS fun kh13=>aG fun az=>cL fT rfl ?_
  refine f_Q (aH Tryz.isAgg22 rfl (v:= .slice A l.length cap) (rdA rfl))<|dU jB rfl<|aB 1 rfl<|aD az<|aR ?_
  refine dA (α:=Nat×Seg×Seg) [3,4,5,6,13,14,48,49] (fun ⟨k,m1',m2'⟩=>[(50,.int .i64 (k:Int))]) (fun ⟨k,m1',m2'⟩=>[m1',m2',[(av,blk [.map (some U),.map (some J)] 105)],[(ae,blk [.slice Ab bs.length cb,.slice Ac R.length cc,.int .i64 (s:Int),.int .i64 (t:Int)] 101)],[(b5,blk [.int .i64 (n:Int),.slice A l.length cap] 24)],[(b6,blk [.slice Ab bs.length cb,.slice Ac R.length cc] 34)]]) (fun ⟨k,m1',m2'⟩=>k≤l.length∧TblR n ((cqK l (bG R) (pQ (bG R) s t R.length) (gJ O) bs.length++(l.take k).filter (qP (bG R) s t R.length)).map (trn false)) U m1'∧TblR n ((cqK l (bG R) (pQ (bG R) s t R.length) (gJ O) bs.length++(l.take k).filter (qP (bG R) s t R.length)).map (trn true)) J m2') (fun ⟨k,m1',m2'⟩=>l.length - k) (0,m1,m2) ?_ ?_ ?_ ?_
  ·exact aF
  ·exact aC
  ·exact ⟨Nat.zero_le _,by rw [List.take_zero,List.filter_nil,List.append_nil];exact bC,by rw [List.take_zero,List.filter_nil,List.append_nil];exact bK⟩
  ·rintro ⟨k,m1',m2'⟩ ⟨bt,Z,aa⟩;refine aG fun kh15=>aB 1 rfl<|aD kh15<|aS fun kh16=>aX rfl (fun bM=>?_) (fun bM=>?_)
   ·have hk:k<l.length:=aA
    obtain ⟨bA,oA,rfl,bw,bq⟩:=hr (eX bZ dD aA hk)
    have b1:=ap k hk
    obtain ⟨u,hu,bc⟩:∃ u:Nat,l[k].src=(u:Int)∧u<n:=⟨l[k].src.toNat,aA,aA⟩
    obtain ⟨v,hv,bh⟩:∃ u:Nat,l[k].dst=(u:Int)∧u<n:=⟨l[k].dst.toNat,aA,aA⟩
    have au:l[k].src.toNat=u:=aA
    have bk:l[k].dst.toNat=v:=aA
    have aj:=filter_next (p:=qP (bG R) s t R.length) hk
    have bD:=List.length_filter_le (qP (bG R) s t R.length) (l.take k)
    rw [List.length_take] at bD;refine bV kh16<|aS fun kh17=>aR<|aG fun kh18=>f_Q (aL jB rfl rfl (oA+k*3))<|f_Q (aO (vs:=bZ l[k]) Tryz.isAgg69 Tryz.sizeOf69 rfl rfl (f8 dD bw bq hk))<|f_S (cQ Tryz.zeroValue69 rfl fun b17=>?_)
    refine f_Z (bP Tryz.sizeOf69 rfl rfl rfl rfl cF (bZ l[k]) rfl ?_);refine aD kh18<|aG fun kh19=>f_Q (aO (vs:=[_,_,_,_]) Tryz.isAgg101 Tryz.sizeOf101 rfl rfl ⟨(rdA rfl),(rdA rfl),(rdA rfl),(rdA rfl),trivial⟩)<|cL fY rfl<|cX Tryz.isAgg3 rfl (rdA rfl) ?_
    refine f_S (aV Tryz.call50 rfl (fun w_ hp_=>(by have h:=qat_spec Ab bs cb Ac R cc n s t u w_ (hn.up0 hp_) ac aA hs ht bc;rw [← hu] at h;exact h)) ?_);rintro _ _ ⟨rfl,rfl⟩;dsimp only [aK,aJ];refine aB 1 rfl<|aD kh19 ?_
    refine qZ (α:=Bool) [3,4,5,6,13,14,17,48,49,50] (fun z=>[(90,.bool z)]) (fun z=>[[(b17,blk (bZ l[k]) 69)],m1',m2',[(av,blk [.map (some U),.map (some J)] 105)],[(ae,blk [.slice Ab bs.length cb,.slice Ac R.length cc,.int .i64 (s:Int),.int .i64 (t:Int)] 101)],[(b5,blk [.int .i64 (n:Int),.slice (some ⟨bA,oA,none⟩) l.length cap] 24)],[(b6,blk [.slice Ab bs.length cb,.slice Ac R.length cc] 34)]]) (fun z=>z=qP (bG R) s t R.length l[k]) ?_ ?_
    ·intro bW ak;refine c7 [[(ae,blk [.slice Ab bs.length cb,.slice Ac R.length cc,.int .i64 (s:Int),.int .i64 (t:Int)] 101)],[(b6,blk [.slice Ab bs.length cb,.slice Ac R.length cc] 34)],[(b17,blk (bZ l[k]) 69)]] rfl<|f_T 0 rfl (aU rfl)<|f_T 1 rfl (o_eql rfl rfl)<|f_T 2 rfl (aU rfl)<|f_splitH 60 rfl (fun g60=>?_) (fun g60=>?_)
     ·refine dR 3 rfl aW rfl rfl rfl rfl rfl rfl aC<|dR 4 rfl aW rfl rfl rfl rfl rfl rfl aC<|dR 5 rfl aW rfl rfl rfl rfl rfl rfl aC<|dR 6 rfl aW rfl rfl rfl rfl rfl rfl aC<|dR 7 rfl aW rfl rfl rfl rfl rfl rfl aC<|dR 8 rfl aW rfl rfl rfl rfl rfl rfl aC<|f_T 9 rfl (qI rfl rfl)<|f_T 10 rfl (aU rfl)<|dR 11 rfl aW rfl rfl rfl rfl rfl rfl aC<|dR 12 rfl aW rfl rfl rfl rfl rfl rfl aC ?_
      refine dR 13 rfl aW rfl rfl rfl rfl rfl rfl aC<|dR 14 rfl aW rfl rfl rfl rfl rfl rfl aC<|dR 15 rfl aW rfl rfl rfl rfl rfl rfl aC<|dR 16 rfl aW rfl rfl rfl rfl rfl rfl aC<|dR 17 rfl aW rfl rfl rfl rfl rfl rfl aC<|dR 18 rfl aW rfl rfl rfl rfl rfl rfl aC<|dR 19 rfl aW rfl rfl rfl rfl rfl rfl aC<|dR 20 rfl aW rfl rfl rfl rfl rfl rfl aC<|dR 21 rfl aW rfl rfl rfl rfl rfl rfl aC<|dR 22 rfl aW rfl rfl rfl rfl rfl rfl aC ?_
      refine dR 23 rfl aW rfl rfl rfl rfl rfl rfl aC<|dR 24 rfl aW rfl rfl rfl rfl rfl rfl aC<|dR 25 rfl aW rfl rfl rfl rfl rfl rfl aC<|dR 26 rfl aW rfl rfl rfl rfl rfl rfl aC<|dR 27 rfl aW rfl rfl rfl rfl rfl rfl aC<|dR 28 rfl aW rfl rfl rfl rfl rfl rfl aC<|dR 29 rfl aW rfl rfl rfl rfl rfl rfl aC<|dR 30 rfl aW rfl rfl rfl rfl rfl rfl aC<|dR 31 rfl aW rfl rfl rfl rfl rfl rfl aC<|f_T 32 rfl (qI rfl rfl) ?_
      refine cU aW<|cS (ak _ _ (true) (qP_src au aA).symm ?_ ?_ ?_)
      ·exact aF
      ·exact aF
      ·exact aC
     ·obtain ⟨kq,bu⟩:∃ kq,atV (bG R) s t R.length u=kq+1:=⟨atV (bG R) s t R.length u - 1,aA⟩
      have bt:=atV_le (bG R) s t R.length u
      have F:kq<R.length:=aA
      have b2:=ac _ (List.getElem_mem F)
      obtain ⟨b0,o0,bg,a1,bi⟩:=hn.c (fX F)
      obtain ⟨br, or, a2, ax, ba⟩ := (hn.rows _ (List.getElem_mem F)).1 (fun e => by have := a7 (R[kq]'F).2.1; rw [e] at this; simp at this; omega)
      have aw : u < (R[kq]'F).2.1.length := aA
      have be : v < (R[kq]'F).2.1.length := aA
      refine iL 3 rfl rfl rfl (aU rfl)<|iL 4 rfl rfl rfl (aO (vs:=[_,_,_,_]) Tryz.isAgg101 Tryz.sizeOf101 rfl rfl ⟨(rdA rfl),(rdA rfl),(rdA rfl),(rdA rfl),trivial⟩)<|iL 5 rfl rfl rfl (aT fO rfl)<|iL 6 rfl rfl rfl (aH Tryz.isAgg3 rfl (rdA rfl)) ?_
      refine f_onlyY 7 rfl aW rfl rfl rfl rfl rfl (aV Tryz.call50 rfl (fun w_ hp_=>(by have h:=qat_spec Ab bs cb Ac R cc n s t v w_ (hn.up0 hp_) ac aA hs ht bh;rw [← hv] at h;exact h)) ?_);rintro _ _ ⟨rfl,rfl⟩;dsimp only [aK,aJ];refine ⟨aC,?_⟩;refine iL 8 rfl rfl rfl (o_neq rfl rfl)<|f_T 9 rfl (o_pickF rfl rfl)<|f_T 10 rfl (aU rfl)<|f_splitH 68 rfl (fun g68=>?_) (fun g68=>?_)
      ·refine dR 11 rfl aW rfl rfl rfl rfl rfl rfl aC<|dR 12 rfl aW rfl rfl rfl rfl rfl rfl aC<|dR 13 rfl aW rfl rfl rfl rfl rfl rfl aC<|dR 14 rfl aW rfl rfl rfl rfl rfl rfl aC<|dR 15 rfl aW rfl rfl rfl rfl rfl rfl aC<|dR 16 rfl aW rfl rfl rfl rfl rfl rfl aC<|dR 17 rfl aW rfl rfl rfl rfl rfl rfl aC<|dR 18 rfl aW rfl rfl rfl rfl rfl rfl aC<|dR 19 rfl aW rfl rfl rfl rfl rfl rfl aC<|dR 20 rfl aW rfl rfl rfl rfl rfl rfl aC ?_
       refine dR 21 rfl aW rfl rfl rfl rfl rfl rfl aC<|dR 22 rfl aW rfl rfl rfl rfl rfl rfl aC<|dR 23 rfl aW rfl rfl rfl rfl rfl rfl aC<|dR 24 rfl aW rfl rfl rfl rfl rfl rfl aC<|dR 25 rfl aW rfl rfl rfl rfl rfl rfl aC<|dR 26 rfl aW rfl rfl rfl rfl rfl rfl aC<|dR 27 rfl aW rfl rfl rfl rfl rfl rfl aC<|dR 28 rfl aW rfl rfl rfl rfl rfl rfl aC<|dR 29 rfl aW rfl rfl rfl rfl rfl rfl aC<|dR 30 rfl aW rfl rfl rfl rfl rfl rfl aC ?_
       refine dR 31 rfl aW rfl rfl rfl rfl rfl rfl aC<|f_T 32 rfl (qI rfl rfl)<|cU aW<|cS (ak _ _ (true) (qP_lvl au bk aA).symm ?_ ?_ ?_)
       ·exact aF
       ·exact aF
       ·exact aC
      ·refine iL 11 rfl rfl rfl (aT jD rfl)<|iL 12 rfl rfl rfl (aH Tryz.isAgg32 rfl (v:= .slice (some ⟨b0,o0,none⟩) R.length cc) (rdA (by rw [← bg];rfl))) ?_
       refine iL 13 rfl rfl rfl (aU rfl)<|iL 14 rfl rfl rfl (kM rfl rfl _ (Eq.trans (d7 aA) (show _=(kq:Int) by omega))) ?_
       refine iL 15 rfl rfl rfl (aL gL rfl rfl (o0 + kq)) <| iL 16 rfl rfl rfl (aH Tryz.isAgg25 rfl (v := .slice (some ⟨br, or, none⟩) (R[kq]'F).2.1.length (R[kq]'F).2.2) (show Rd _ _ _ _ _ (Value.slice (some ⟨br, or, none⟩) (R[kq]'F).2.1.length (R[kq]'F).2.2) by rw [← a2]; exact d3 (enc := fG) a1 bi F)) ?_
       refine iL 17 rfl rfl rfl (aT fY rfl)<|iL 18 rfl rfl rfl (aH Tryz.isAgg3 rfl (rdA rfl))<|iL 19 rfl rfl rfl (aL bX rfl rfl (or+u))<|iL 20 rfl rfl rfl (aH Tryz.isAgg3 rfl (d3 (enc:=(.int .i64 ·)) ax ba aw))<|iL 21 rfl rfl rfl (aT jD rfl)<|iL 22 rfl rfl rfl (aH Tryz.isAgg32 rfl (v:= .slice (some ⟨b0,o0,none⟩) R.length cc) (rdA (by rw [← bg];rfl))) ?_
       refine iL 23 rfl rfl rfl (aU rfl)<|iL 24 rfl rfl rfl (kM rfl rfl _ (Eq.trans (d7 aA) (show _=(kq:Int) by omega))) ?_
       refine iL 25 rfl rfl rfl (aL gL rfl rfl (o0 + kq)) <| iL 26 rfl rfl rfl (aH Tryz.isAgg25 rfl (v := .slice (some ⟨br, or, none⟩) (R[kq]'F).2.1.length (R[kq]'F).2.2) (show Rd _ _ _ _ _ (Value.slice (some ⟨br, or, none⟩) (R[kq]'F).2.1.length (R[kq]'F).2.2) by rw [← a2]; exact d3 (enc := fG) a1 bi F)) ?_
       refine iL 27 rfl rfl rfl (aT fO rfl) <| iL 28 rfl rfl rfl (aH Tryz.isAgg3 rfl (rdA rfl)) <| iL 29 rfl rfl rfl (aL bX rfl rfl (or + v)) <| iL 30 rfl rfl rfl (aH Tryz.isAgg3 rfl (d3 (enc := (.int .i64 ·)) ax ba be)) <| iL 31 rfl rfl rfl (o_neq rfl rfl) <| f_T 32 rfl (o_pickF rfl rfl) <| cU aW <| cS (ak _ _ (decide ((R[kq]'F).2.1[u] ≠ (R[kq]'F).2.1[v])) (by rw [qP_cell au bk bu aA, iF F, eM aw, eM be]) ?_ ?_ ?_)
       ·exact aF
       ·exact aF
       ·exact aC
    ·rintro z hz;refine eO rfl (fun ar=>?_) (fun ar=>?_)
     ·rw [← hz,ar,if_pos rfl] at aj;refine aI<|f_Q (aO (vs:=[_,_]) Tryz.isAgg105 Tryz.sizeOf105 rfl rfl ⟨(rdA rfl),(rdA rfl),trivial⟩)<|cL fY rfl<|cX Tryz.isAgg3 rfl (rdA rfl)<|cL fO rfl<|cX Tryz.isAgg3 rfl (rdA rfl)<|cL fa69_2 rfl<|cX Tryz.isAgg56 rfl (rdA rfl)<|f_Q (g5 Tryz.runUnderlying56 Tryz.runUnderlying46 rfl _ (iQ (by have:=ad _ (List.getElem_mem hk);omega))) ?_
      refine f_S (d4 [m1',m2'] _ Tryz.call51 rfl (by repeat (first|exact Sub.refl|refine aM ?_|refine cE rfl ?_)) (fun w_ hp_=>(by have h:=put_spec n (cqK l (bG R) (pQ (bG R) s t R.length) (gJ O) bs.length++(l.take k).filter (qP (bG R) s t R.length)) U J m1' m2' u v l[k].wt w_ Z aa bc bh (by rw [List.length_append];omega) hp_.owns;rw [← hu,← hv] at h;exact h)) ?_);rintro _ _ ⟨bj,bp,rfl,rfl,am,ao⟩;rw [show putE (cqK l (bG R) (pQ (bG R) s t R.length) (gJ O) bs.length++(l.take k).filter (qP (bG R) s t R.length)) l[k]=(cqK l (bG R) (pQ (bG R) s t R.length) (gJ O) bs.length++(l.take k).filter (qP (bG R) s t R.length))++[l[k]] from if_pos (by have:=(ad _ (List.getElem_mem hk)).2;unfold INF;omega),List.append_assoc,← aj] at am ao;dsimp only [aK,aJ];refine aZ<|dF<|bO kh17<|aI<|f_Q (a8 rfl rfl)<|aB 1 rfl<|aZ ?_
      refine cS (a6 (k+1,bj,bp) (by first|omega|(dsimp only;omega)|(simp;omega)) ⟨aA,am,ao⟩ ?_ ?_ ?_)
      ·exact aF
      ·exact aF
      ·exact aC
     ·rw [← hz,ar,if_neg (by decide),List.append_nil] at aj;refine dY<|dF<|bO kh17<|aI<|f_Q (a8 rfl rfl)<|aB 1 rfl<|aZ ?_
      refine cS (a6 (k+1,m1',m2') (by first|omega|(dsimp only;omega)|(simp;omega)) ⟨aA,by rw [aj];exact Z,by rw [aj];exact aa⟩ ?_ ?_ ?_)
      ·exact aF
      ·exact aF
      ·exact aC
   ·obtain rfl:k=l.length:=aA
    rw [List.take_length] at Z aa;refine cN<|cO<|cO<|eC<|bO kh13<|aS fun kh21=>c7 [[(av,blk [.map (some U),.map (some J)] 105)],[(b5,blk [.int .i64 (n:Int),.slice A l.length cap] 24)]] rfl<|f_T 0 rfl (aT fa105_0 rfl)<|f_T 1 rfl (aH Tryz.isAgg103 rfl (rdA rfl))<|f_T 2 rfl (qK Tryz.underlying103 rfl rfl) ?_
    refine f_T 3 rfl (aT eT rfl)<|f_T 4 rfl (aH Tryz.isAgg3 rfl (rdA rfl))<|f_T 5 rfl (aU rfl)<|f_T 6 rfl (dL st113 rfl rfl)<|f_T 9 rfl (aT fa105_1 rfl)<|f_T 10 rfl (aH Tryz.isAgg103 rfl (rdA rfl))<|f_T 11 rfl (qK Tryz.underlying103 rfl rfl)<|f_T 12 rfl (aT eT rfl)<|f_T 13 rfl (aH Tryz.isAgg3 rfl (rdA rfl))<|f_T 14 rfl (aU rfl) ?_
    refine f_T 15 rfl (dL st113 rfl rfl)<|gH 7 16 rfl rfl aW rfl rfl rfl rfl rfl rfl ?_ ?_
    ·refine (bQ l9 aA rfl rfl rfl fun Y=>⟨aC,?_⟩);refine gH 8 16 rfl rfl aW rfl rfl rfl rfl rfl rfl ?_ ?_
     ·refine (aV Tryz.call53 rfl (fun w_ hp_=>kK n U s aA hs (some ⟨Y,0,none⟩) 1 w_ (fP (b:=Y) hp_ (cs:=[.int .i64 (s:Int),.int .u64 0]) (fun j v hj=>hj))) ?_);rintro _ _ ⟨bx,ag,mx,rfl,rfl,ah⟩;dsimp only [aK,aJ];refine ⟨aC,?_⟩;refine f_O 16 rfl (bQ l9 aA rfl rfl rfl fun X=>⟨aC,?_⟩);refine f_O 17 rfl (aV Tryz.call53 rfl (fun w_ hp_=>kK n J t aA ht (some ⟨X,0,none⟩) 1 w_ (fP (b:=X) hp_ (cs:=[.int .i64 (t:Int),.int .u64 0]) (fun j v hj=>hj))) ?_);rintro _ _ ⟨bY,an,my,rfl,rfl,al⟩;dsimp only [aK,aJ];refine ⟨aC,?_⟩;refine f_O 18 rfl (d4 [([mx,m1']:List Seg).flatten,([my,m2']:List Seg).flatten] _ Tryz.call52 rfl (Sub.flatTwo (out1:=[mx,m1']) (out2:=[my,m2']) (by dsimp only [aK,aJ];repeat (first|exact Sub.refl|refine aM ?_))) (fun w_ hp_=>qmeet_spec n aA (cqK l (bG R) (pQ (bG R) s t R.length) (gJ O) bs.length++l.filter (qP (bG R) s t R.length)) aq s t hs ht aA U bx ag J bY an _ _ w_ (FR.mk ah Z) (FR.mk al aa) hp_.owns) ?_);rintro _ _ ⟨x,rfl,rfl,hx⟩;dsimp only [aK,aJ];refine ⟨aC,?_⟩;refine f_O 19 rfl ((bI rfl).does ⟨aC,?_⟩);refine f_O 20 rfl ((bI rfl).does ⟨aC,?_⟩);refine cU aW<|bO kh21<|aY ?_
      exact cZ [] Tryz.results17 rfl rfl aP ⟨x,rfl,rfl,qry_ok ap (fun x hx=>(ad x hx).1) (nest_lvs ab ai) hQ hs ht hx⟩
     ·refine (bQ l9 aA rfl rfl rfl fun X=>⟨aC,?_⟩);refine f_O 8 rfl (aV Tryz.call53 rfl (fun w_ hp_=>kK n U s aA hs (some ⟨Y,0,none⟩) 1 w_ (fP (b:=Y) hp_ (cs:=[.int .i64 (s:Int),.int .u64 0]) (fun j v hj=>hj))) ?_);rintro _ _ ⟨bx,ag,mx,rfl,rfl,ah⟩;dsimp only [aK,aJ];refine ⟨aC,?_⟩;refine f_O 17 rfl (aV Tryz.call53 rfl (fun w_ hp_=>kK n J t aA ht (some ⟨X,0,none⟩) 1 w_ (fP (b:=X) hp_ (cs:=[.int .i64 (t:Int),.int .u64 0]) (fun j v hj=>hj))) ?_);rintro _ _ ⟨bY,an,my,rfl,rfl,al⟩;dsimp only [aK,aJ];refine ⟨aC,?_⟩;refine f_O 18 rfl (d4 [([mx,m1']:List Seg).flatten,([my,m2']:List Seg).flatten] _ Tryz.call52 rfl (Sub.flatTwo (out1:=[mx,m1']) (out2:=[my,m2']) (by dsimp only [aK,aJ];repeat (first|exact Sub.refl|refine aM ?_))) (fun w_ hp_=>qmeet_spec n aA (cqK l (bG R) (pQ (bG R) s t R.length) (gJ O) bs.length++l.filter (qP (bG R) s t R.length)) aq s t hs ht aA U bx ag J bY an _ _ w_ (FR.mk ah Z) (FR.mk al aa) hp_.owns) ?_);rintro _ _ ⟨x,rfl,rfl,hx⟩;dsimp only [aK,aJ];refine ⟨aC,?_⟩;refine f_O 19 rfl ((bI rfl).does ⟨aC,?_⟩);refine f_O 20 rfl ((bI rfl).does ⟨aC,?_⟩);refine cU aW<|bO kh21<|aY ?_
      exact cZ [] Tryz.results17 rfl rfl aP ⟨x,rfl,rfl,qry_ok ap (fun x hx=>(ad x hx).1) (nest_lvs ab ai) hQ hs ht hx⟩
    ·refine (bQ l9 aA rfl rfl rfl fun X=>⟨aC,?_⟩);refine f_O 7 rfl (bQ l9 aA rfl rfl rfl fun Y=>⟨aC,?_⟩);refine f_O 8 rfl (aV Tryz.call53 rfl (fun w_ hp_=>kK n U s aA hs (some ⟨Y,0,none⟩) 1 w_ (fP (b:=Y) hp_ (cs:=[.int .i64 (s:Int),.int .u64 0]) (fun j v hj=>hj))) ?_);rintro _ _ ⟨bx,ag,mx,rfl,rfl,ah⟩;dsimp only [aK,aJ];refine ⟨aC,?_⟩;refine f_O 17 rfl (aV Tryz.call53 rfl (fun w_ hp_=>kK n J t aA ht (some ⟨X,0,none⟩) 1 w_ (fP (b:=X) hp_ (cs:=[.int .i64 (t:Int),.int .u64 0]) (fun j v hj=>hj))) ?_);rintro _ _ ⟨bY,an,my,rfl,rfl,al⟩;dsimp only [aK,aJ];refine ⟨aC,?_⟩;refine f_O 18 rfl (d4 [([mx,m1']:List Seg).flatten,([my,m2']:List Seg).flatten] _ Tryz.call52 rfl (Sub.flatTwo (out1:=[mx,m1']) (out2:=[my,m2']) (by dsimp only [aK,aJ];repeat (first|exact Sub.refl|refine aM ?_))) (fun w_ hp_=>qmeet_spec n aA (cqK l (bG R) (pQ (bG R) s t R.length) (gJ O) bs.length++l.filter (qP (bG R) s t R.length)) aq s t hs ht aA U bx ag J bY an _ _ w_ (FR.mk ah Z) (FR.mk al aa) hp_.owns) ?_);rintro _ _ ⟨x,rfl,rfl,hx⟩;dsimp only [aK,aJ];refine ⟨aC,?_⟩;refine f_O 19 rfl ((bI rfl).does ⟨aC,?_⟩);refine f_O 20 rfl ((bI rfl).does ⟨aC,?_⟩);refine cU aW<|bO kh21<|aY ?_
     exact cZ [] Tryz.results17 rfl rfl aP ⟨x,rfl,rfl,qry_ok ap (fun x hx=>(ad x hx).1) (nest_lvs ab ai) hQ hs ht hx⟩
def l3Q:List Arc:=[⟨0,1,5⟩,⟨1,2,7⟩,⟨0,2,20⟩]
theorem l3Ok:∀ x∈l3Q,eK x:=by
 intro x hx;simp only [l3Q,List.mem_cons,List.not_mem_nil,or_false] at hx
 rcases hx with rfl|rfl|rfl<;>exact ⟨by decide,by decide,by decide⟩
theorem l3_dist {x:Int} (h:IsB l3Q i4 0 2 x):x=12:=by
 have F:IsD 3 l3Q i4 0 [0,5,12]:=by
  refine ⟨rfl,fun v hv=>?_,rfl,fun i hi _=>?_,fun v hv _=>?_⟩
  ·match v,hv with
   |0,_=>decide
   |1,_=>decide
   |2,_=>decide
  ·match i,hi with
   |0,_=>show (5:Int)≤0+5;decide
   |1,_=>show (12:Int)≤5+7;decide
   |2,_=>show (12:Int)≤0+20;decide
  ·match v,hv with
   |0,_=>exact .nil
   |1,_=>exact Wk.step (e:=l3Q) (p:=i4) (i:=0) (by decide) rfl .nil
   |2,_=>exact Wk.step (e:=l3Q) (p:=i4) (i:=1) (by decide) rfl (Wk.step (e:=l3Q) (p:=i4) (i:=0) (by decide) rfl .nil)
 exact h.unique (F.isB aA)
theorem l3_pl:plE 3 l3Q [2] [] 0=0:=aW
theorem tlarge_spec (N:Int) (A:Option Addr) (l:List Arc) (cap:Nat) (w:World) (hl:l.length≤9223372036854775807) (F:I64 N):Meets Tryz.prog 6 [.agg #[.int .i64 N,.slice A l.length cap]] w [] (fun u m=>∃ b,u= .bool b∧m=[]∧(b=false→N≤40∧l.length≤200)):=by
 refine bE Tryz.func6 rfl Tryz.ntmps6 rfl Owns.nil<|aG fun kh1=>f_S (cT rfl rfl fun J=>?_)
 refine aB 1 rfl<|aD kh1<|aG fun kh2=>cL eT rfl<|cX Tryz.isAgg3 rfl (rdA rfl)<|aB 2 rfl<|d8 6 rfl (fun g6=>?_) (fun g6=>?_)
 ·refine aB 6 rfl<|aD kh2<|aY ?_
  exact bJ [] Tryz.results6 rfl aP ⟨_,rfl,rfl,fun h=>by cases h⟩
 ·refine eA rfl rfl (aT fT rfl)<|eA rfl rfl (aH Tryz.isAgg22 rfl (rdA rfl))<|eA rfl rfl (iH jB rfl)<|aB 3 rfl<|aD kh2<|aY ?_
  exact bJ [] Tryz.results6 rfl aP ⟨_,rfl,rfl,fun h=>⟨aA,by have:=of_decide_eq_false h;omega⟩⟩
theorem tright_spec (N:Int) (A:Option Addr) (l:List Arc) (cap:Nat) (w:World) (hr:Ro (Fr w []) w A (l.flatMap bZ)) (hl:l.length≤9223372036854775807) (J:I64 N) (hok:∀ x∈l,eK x):Meets Tryz.prog 7 [.agg #[.int .i64 N,.slice A l.length cap]] w [] (fun u m=>∃ b,u= .bool b∧m=[]∧(b=true→(cG N l).2=0)):=by
 refine bE Tryz.func7 rfl Tryz.ntmps7 rfl Owns.nil<|aG fun kh1=>f_S (cT rfl rfl fun U=>?_)
 refine aB 1 rfl<|aD kh1<|aG fun kh2=>f_Q (aO (vs:=[_,_]) Tryz.isAgg24 Tryz.sizeOf24 rfl rfl ⟨(rdA rfl),(rdA rfl),trivial⟩) ?_
 refine f_S (aV Tryz.call20 rfl (fun O F=>f3 N A l cap O (hr.up0 F) hl J hok) ?_);rintro _ _ ⟨rfl,rfl⟩;dsimp only [aK,aJ];refine aB 5 rfl<|aD kh2<|aG fun kh3=>aB 3 rfl<|aD kh3<|aY ?_
 exact bJ [] Tryz.results7 rfl aP ⟨_,rfl,rfl,fun h=>of_decide_eq_true h⟩
theorem three_spec (w:World):Meets Tryz.prog 19 [] w [] (fun u m=>∃ b,u= .agg #[.int .i64 3,.slice (some ⟨b,0,none⟩) 3 3]∧m=[[(b,blk (l3Q.flatMap bZ) 69)]]):=by
 refine bE Tryz.func19 rfl Tryz.ntmps19 rfl Owns.nil<|aG fun kh1=>f_S (cQ Tryz.zeroValue24 rfl fun b0=>?_)
 refine aD kh1<|aG fun kh2=>f_Q (dL st69 rfl rfl)<|f_Q (dL st69 rfl rfl)<|f_Q (dL st69 rfl rfl)<|f_S (o_sliceN (len:=3) el22 aA rfl rfl fun F=>?_)
 refine f_Q (dL st24 rfl rfl)<|f_Z (bP Tryz.sizeOf24 rfl rfl rfl rfl cF [.int .i64 3,.slice (some ⟨F,0,none⟩) 3 3] rfl ?_)
 refine aD kh2<|aY ?_
 exact f_fin1c (vs:=[.int .i64 3,.slice (some ⟨F,0,none⟩) 3 3]) [[(F,blk (l3Q.flatMap bZ) 69)]] Tryz.results19 rfl Tryz.isAgg24 Tryz.sizeOf24 rfl ⟨(rdA rfl),(rdA rfl),trivial⟩ aC ⟨F,rfl,rfl⟩
theorem routed_spec (w:World):Meets Tryz.prog 5 [] w [] (fun u m=>u= .bool true∧m=[]):=by
 refine bE Tryz.func5 rfl Tryz.ntmps5 rfl Owns.nil<|aG fun kh1=>aB 1 rfl<|aD kh1<|aG fun kh2=>?_
 refine f_S (aV Tryz.call19 rfl (fun O F=>three_spec O) ?_);rintro _ _ ⟨ad,rfl,rfl⟩;dsimp only [aK,aJ];refine f_S (bQ eL aA rfl rfl rfl fun b9=>?_);refine f_S (aV Tryz.call18 rfl (fun O F=>Make_spec 3 (some ⟨ad,0,none⟩) l3Q 3 (some ⟨b9,0,none⟩) [2] 1 none [] 0 0 O (fP (b:=ad) F (fun j v hj=>hj)) (by decide) (by decide) l3Ok (fP (b:=b9) F (cs:=bF [2]) (fun j v hj=>hj)) (by decide) Ro.nil (by decide) ⟨by decide,by decide⟩) ?_);rintro _ _ ⟨ap,L,R,Ab,Ac,J,U,mb,mc,ms,rfl,rfl,ag,ac,ab,X,_,hz⟩;obtain ⟨rfl,aa,ak⟩:=hz l3_pl
 rw [l3_pl];obtain ⟨n3,ao,am⟩:=plE_zero l3_pl
 obtain rfl:n3=3:=aA
 have Y:=made_ok am ak aa
 rw [← X] at Y;have al:R.length=1:=by rw [← d5,X,aa];rfl
 dsimp only [aK,aJ];refine aB 3 rfl<|f_S (cQ Tryz.zeroValue34 rfl fun b1=>?_)
 refine f_Z (bP Tryz.sizeOf34 rfl rfl rfl rfl cF [.slice Ab 1 J,.slice Ac R.length U] rfl ?_);refine aB 1 rfl<|aD kh2<|aS fun kh3=>c7 [[(b1,blk [.slice Ab 1 J,.slice Ac R.length U] 34)]] rfl<|f_T 1 rfl (aO (vs:=[_,_]) Tryz.isAgg34 Tryz.sizeOf34 rfl rfl ⟨(rdA rfl),(rdA rfl),trivial⟩) ?_
 refine f_O 0 rfl (aV Tryz.call19 rfl (fun O F=>three_spec O) ?_);rintro _ _ ⟨ah,rfl,rfl⟩;dsimp only [aK,aJ];refine ⟨aC,?_⟩;refine f_O 2 rfl (aV Tryz.call14 rfl (fun O F=>All_spec 3 (some ⟨ah,0,none⟩) l3Q 3 Ab [2] J Ac R U 0 O ⟨fP (b:=ah) F (fun j v hj=>hj),l3Ok,nest_ro F ag ac ab X aA,Y⟩ ⟨by decide,by decide⟩) ?_);rintro _ _ ⟨Os,vs,rs,ds,bo,rfl,rfl,hB,Z⟩;dsimp only [aK,aJ];refine ⟨aC,?_⟩;refine f_T 3 rfl (aU rfl)<|f_T 4 rfl (eU rfl rfl)<|f_T 5 rfl (eU rfl rfl)<|f_O 6 rfl ((bI rfl).does ⟨aC,?_⟩)
 refine f_O 7 rfl ((bI rfl).does ⟨aC,?_⟩);refine cU aW<|bO kh3<|aS fun kh4=>c7 [[(b1,blk [.slice Ab 1 J,.slice Ac R.length U] 34)]] rfl<|f_T 1 rfl (aO (vs:=[_,_]) Tryz.isAgg34 Tryz.sizeOf34 rfl rfl ⟨(rdA rfl),(rdA rfl),trivial⟩)<|f_T 2 rfl (aU rfl) ?_
 refine f_O 0 rfl (aV Tryz.call19 rfl (fun O F=>three_spec O) ?_);rintro _ _ ⟨ae,rfl,rfl⟩;dsimp only [aK,aJ];refine ⟨aC,?_⟩
 refine f_O 3 rfl (aV Tryz.call17 rfl (fun O F=>(by
   obtain ⟨O',aq,ai,aj⟩:=hB.ro bo F (by rw [Z.len];decide)
   have an:O'.length=1:=by rw [← jV,ai,Z.len];rfl
   have h:=qDist_spec 3 (some ⟨ae,0,none⟩) l3Q 3 Ab [2] J Ac R U (some ⟨bo,0,none⟩) O' 1 0 0 2 O ⟨fP (b:=ae) F (fun j v hj=>hj),l3Ok,nest_ro F ag ac ab X aA,Y⟩ aj (by decide) (by rw [ai];exact Z) (by decide) (by decide)
   rw [an] at h;exact h)) ?_)
 rintro _ _ ⟨x,rfl,rfl,hx⟩;obtain rfl:=l3_dist hx
 dsimp only [aK,aJ];refine ⟨aC,?_⟩;refine f_T 4 rfl (aU rfl)<|f_T 5 rfl (eU rfl rfl)<|f_T 6 rfl (eU rfl rfl)<|f_O 7 rfl ((bI rfl).does ⟨aC,?_⟩)
 refine f_O 8 rfl ((bI rfl).does ⟨aC,?_⟩);refine cU aW<|bO kh4<|aG fun kh5=>aB 3 rfl<|f_trueL 28 rfl (rfl)<|aB 4 rfl<|f_trueL 32 rfl (rfl)<|aB 4 rfl<|f_trueL 36 rfl (rfl)<|aB 4 rfl ?_
 refine aD kh5<|aY ?_
 exact bJ [] Tryz.results5 rfl aP ⟨by rfl,rfl⟩
theorem drawn_spec (N:Int) (A:Option Addr) (l:List Arc) (cap:Nat) (B:Option Addr) (bs:List Int) (bc:Nat) (C:Option Addr) (cs:List Int) (cc:Nat) (mv:Int) (w:World) (hr:Ro (Fr w []) w A (l.flatMap bZ)) (hl:l.length≤9223372036854775807) (hN:I64 N) (hok:∀ x∈l,eK x) (hB:Ro (Fr w []) w B (bF bs)) (ad:bs.length≤bc∧bc≤9223372036854775807) (hC:Ro (Fr w []) w C (bF cs)) (ai:cs.length≤9223372036854775807):
    Meets Tryz.prog 8 [.agg #[.int .i64 N,.slice A l.length cap],.agg #[.slice B bs.length bc,.slice C cs.length cc,.int .i64 mv]] w [] (fun u own' =>∃ (ok:Bool) (F:List Int) (R:List Row) (X Z:Option Addr) (aa ac:Nat) (mb mc:Seg) (ms:List Seg),u= .tuple #[.agg #[.slice X F.length aa,.slice Z R.length ac],.bool ok]∧own' =[mb,mc,ms.flatten]∧Own 3 1 (.slice X F.length aa) F.length (bF F) mb∧Own 25 1 (.slice Z R.length ac) R.length (R.map fG) mc∧RowsI 3 (bG R) (R.map fG) ms∧(ok=true→∃ n:Nat,N=(n:Int)∧NestOk n l F (bG R))):=by
 refine bE Tryz.func8 rfl Tryz.ntmps8 rfl Owns.nil<|aG fun kh1=>f_S (cT rfl rfl fun b2=>?_)
 refine f_S (cT rfl rfl fun b3=>?_);refine f_S (cQ Tryz.zeroValue34 rfl fun b4=>?_);refine aB 1 rfl<|aD kh1<|aS fun kh2=>aG fun kh3=>cL fa27_1 rfl<|cX Tryz.isAgg25 rfl (rdA rfl)<|dU bX rfl<|aB 2 rfl<|d8 12 rfl (fun g12=>?_) (fun g12=>?_)
 ·refine aB 4 rfl<|aD kh3<|fI rfl<|aG fun kh4=>f_Q (dL st34 rfl rfl)<|f_Z (bP Tryz.sizeOf34 rfl rfl rfl rfl cF [.slice none 0 0,.slice none 0 0] rfl ?_)
  refine aB 1 rfl<|aD kh4<|aY<|cV ?_
  exact gW (vs:=[.slice none 0 0,.slice none 0 0]) [[],[],([]:List Seg).flatten] Tryz.results8 rfl Tryz.isAgg34 Tryz.sizeOf34 rfl ⟨(rdA rfl),(rdA rfl),trivial⟩ rfl aC ⟨false,[],[],none,none,0,0,[],[],[],rfl,rfl,Own.nil _ _,Own.nil _ _,⟨rfl,rfl,fun i h=>by simp [bG] at h⟩,fun h=>by cases h⟩
 ·refine eA rfl rfl (aT fa27_2 rfl)<|eA rfl rfl (aH Tryz.isAgg3 rfl (rdA rfl))<|aB 2 rfl<|aD kh3<|aX rfl (fun c16=>?_) (fun c16=>?_)
  ·refine aG fun aj=>f_Q (dL st34 rfl rfl)<|f_Z (bP Tryz.sizeOf34 rfl rfl rfl rfl cF [.slice none 0 0,.slice none 0 0] rfl ?_)
   refine aB 1 rfl<|aD aj<|aY<|cV ?_
   exact gW (vs:=[.slice none 0 0,.slice none 0 0]) [[],[],([]:List Seg).flatten] Tryz.results8 rfl Tryz.isAgg34 Tryz.sizeOf34 rfl ⟨(rdA rfl),(rdA rfl),trivial⟩ rfl aC ⟨false,[],[],none,none,0,0,[],[],[],rfl,rfl,Own.nil _ _,Own.nil _ _,⟨rfl,rfl,fun i h=>by simp [bG] at h⟩,fun h=>by cases h⟩
  ·refine bV kh2<|aG fun kh6=>f_Q (aO (vs:=[_,_]) Tryz.isAgg24 Tryz.sizeOf24 rfl rfl ⟨(rdA rfl),(rdA rfl),trivial⟩)<|cL fa27_0 rfl<|cX Tryz.isAgg25 rfl (rdA rfl)<|cL fa27_1 rfl<|cX Tryz.isAgg25 rfl (rdA rfl)<|cL fa27_2 rfl<|cX Tryz.isAgg3 rfl (rdA rfl) ?_
   refine f_S (aV Tryz.call18 rfl (fun w_ Y=>Make_spec N A l cap B bs bc C cs cc mv w_ (hr.up0 Y) hl hN hok (hB.up0 Y) aA (hC.up0 Y) ai ad) ?_);rintro _ _ ⟨J,L,R,X,Z,U,O,mb,mc,ms,rfl,rfl,al,ak,ah,ae,ao,an⟩;subst ae;dsimp only [aK,aJ];refine aB 3 rfl<|f_S (cQ Tryz.zeroValue34 rfl fun b6=>?_)
   refine f_Z (bP Tryz.sizeOf34 rfl rfl rfl rfl cF [.slice X J.length U,.slice Z R.length O] rfl ?_);refine aB 1 rfl<|aD kh6<|aG fun kh7=>f_Q (aO (vs:=[_,_]) Tryz.isAgg34 Tryz.sizeOf34 rfl rfl ⟨(rdA rfl),(rdA rfl),trivial⟩)<|aB 2 rfl<|f_Z (bP Tryz.sizeOf34 rfl rfl rfl rfl cF [.slice X J.length U,.slice Z R.length O] rfl ?_)
   refine aB 1 rfl<|aD kh7<|aY ?_
   exact gW (vs:=[.slice X J.length U,.slice Z R.length O]) [mb,mc,ms.flatten] Tryz.results8 rfl Tryz.isAgg34 Tryz.sizeOf34 rfl ⟨(rdA rfl),(rdA rfl),trivial⟩ rfl aC ⟨_,J,R,X,Z,U,O,mb,mc,ms,rfl,rfl,al,ak,ah,fun h=>by
     have hz:plE N l bs cs mv=0:=of_decide_eq_true h
     obtain ⟨rfl,ag,ab⟩:=an hz
     obtain ⟨n,rfl,am⟩:=plE_zero hz
     rw [Int.toNat_natCast] at ab
     exact ⟨n,rfl,made_ok am ab ag⟩⟩
theorem nest_other {n:Nat} {l l' :List Arc} {bs:List Int} {L:List (List Int)} (h:NestOk n l bs L) (hg:(cG (n:Int) l').2=0):NestOk n l' bs L:=
 ⟨hg,h.many,h.len,fun k hk=>(l4 hg).2 ((l4 h.g).1 (h.lv k hk))⟩
theorem change_zero {N a:Int} {l b:List Arc} {cs:List Chg} (h:oI N l cs=(a,b,0)):a=N∧b=chg l cs∧cs.length≤16384∧∀ c∈cs,0≤c.arc∧c.arc<(l.length:Int):=by
 unfold oI at h
 by_cases h1:(cG N l).2≠0
 ·rw [if_pos h1] at h;simp only [Prod.mk.injEq] at h;exact absurd h.2.2 h1
 ·rw [if_neg h1] at h
  by_cases h2:16384<cs.length
  ·rw [if_pos h2] at h;simp at h
  ·rw [if_neg h2] at h
   by_cases h3:cs.any (chgBad l.length)=true
   ·rw [if_pos h3] at h;simp at h
   ·rw [if_neg h3] at h
    simp only [Prod.mk.injEq] at h;refine ⟨h.1.symm,h.2.1.symm,aA,fun c hc=>?_⟩;have:=List.any_eq_false.1 (by simpa using h3) c hc
    unfold chgBad at this;simp at this;omega
theorem chg_diff:∀ {cs:List Chg} {l:List Arc},(∀ c∈cs,0≤c.arc)→∀ i (h:i<l.length) (h' :i<(chg l cs).length),(chg l cs)[i]≠l[i]→(i:Int)∈cs.map (·.arc)
 |[],l,_,i,h,h',hne=>absurd rfl hne
 |c::cs,l,hb,i,h,h',hne=>by
  have h1:i<(oU l c).length:=by rw [chg1_len];exact h
  rw [List.map_cons]
  by_cases e : (chg (oU l c) cs)[i]'(by rw [lV]; exact h1) = (oU l c)[i]
  ·have F:(oU l c)[i]≠l[i]:=fun e2=>hne (e.trans e2)
   by_cases hc:c.arc.toNat<l.length
   ·have J:=chg1_set hc rfl
    rw [List.getElem_of_eq J h1,List.getElem_set] at F
    split at F
    ·rename_i O;have:=hb c List.mem_cons_self;exact List.mem_cons.2 (.inl aA)
    ·exact absurd rfl F
   ·have J:oU l c=l:=by unfold oU;rw [List.getElem?_eq_none aA]
    exact absurd (List.getElem_of_eq J h1) F
  ·exact List.mem_cons_of_mem _ (chg_diff (fun d hd=>hb d (List.mem_cons_of_mem _ hd)) i h1 (by rw [lV];exact h1) e)
theorem TopChanges_spec (N:Int) (A:Option Addr) (l:List Arc) (cap:Nat) (B:Option Addr) (bs:List Int) (bc:Nat) (C:Option Addr) (cz:List Int) (cc:Nat) (mv:Int) (K:Option Addr) (cs:List Chg) (ck:Nat) (w:World) (hr:Ro (Fr w []) w A (l.flatMap bZ)) (hl:l.length≤9223372036854775807) (hN:I64 N) (hok:∀ x∈l,eK x) (hA:A=none→l.length=0) (hB:Ro (Fr w []) w B (bF bs)) (bi:bs.length≤bc∧bc≤9223372036854775807) (hC:Ro (Fr w []) w C (bF cz)) (bt:cz.length≤9223372036854775807) (hK:Ro (Fr w []) w K (cs.flatMap mF)) (bq:∀ c∈cs,ChgOk c):
    Meets Tryz.prog 4 [.agg #[.int .i64 N,.slice A l.length cap],.agg #[.slice B bs.length bc,.slice C cz.length cc,.int .i64 mv],.slice K cs.length ck] w [] (fun u m=>u= .bool true∧m=[]):=by
 refine bE Tryz.func4 rfl Tryz.ntmps4 rfl Owns.nil<|aG fun kh1=>f_S (cT rfl rfl fun b3=>?_)
 refine f_S (cT rfl rfl fun b4=>?_);refine aB 1 rfl<|aD kh1<|aS fun kh2=>aG fun kh3=>?_
 refine f_S (aV Tryz.call5 rfl (fun O F=>routed_spec O) ?_);rintro _ _ ⟨rfl,rfl⟩;dsimp only [aK,aJ];refine aB 1 rfl<|aD kh3<|iJ rfl<|bV kh2<|aS fun kh4=>aG fun kh5=>f_Q (aO (vs:=[_,_]) Tryz.isAgg24 Tryz.sizeOf24 rfl rfl ⟨(rdA rfl),(rdA rfl),trivial⟩) ?_
 refine f_S (aV Tryz.call6 rfl (fun O F=>tlarge_spec N A l cap O hl hN) ?_);rintro _ _ ⟨bL,rfl,rfl,ci⟩;dsimp only [aK,aJ];refine aB 1 rfl<|m4 28 rfl (fun g28=>?_) (fun g28=>?_)
 ·refine aB 4 rfl<|aD kh5<|fI rfl<|aG fun kh6=>aB 1 rfl<|aD kh6<|aY<|cV ?_
  exact bJ [] Tryz.results4 rfl aP ⟨rfl,rfl⟩
 ·refine eA rfl rfl (aO (vs:=[_,_]) Tryz.isAgg24 Tryz.sizeOf24 rfl rfl ⟨(rdA rfl),(rdA rfl),trivial⟩) ?_;refine jY rfl rfl rfl rfl rfl (aV Tryz.call7 rfl (fun O F=>tright_spec N A l cap O (hr.up0 F) hl hN hok) ?_);rintro _ _ ⟨bR,rfl,rfl,bp⟩;dsimp only [aK,aJ];refine aB 2 rfl<|aD kh5<|eO rfl (fun c32=>?_) (fun c32=>?_)
  ·refine aG fun bv=>aB 1 rfl<|aD bv<|aY<|cV ?_
   exact bJ [] Tryz.results4 rfl aP ⟨rfl,rfl⟩
  ·have a1:(cG N l).2=0:=bp (by simpa using c32)
   refine bV kh4<|aG fun kh8=>f_Q (aO (vs:=[_,_]) Tryz.isAgg24 Tryz.sizeOf24 rfl rfl ⟨(rdA rfl),(rdA rfl),trivial⟩)<|f_Q (aO (vs:=[_,_,_]) Tryz.isAgg27 Tryz.sizeOf27 rfl rfl ⟨(rdA rfl),(rdA rfl),(rdA rfl),trivial⟩) ?_
   refine f_S (aV Tryz.call8 rfl (fun O F=>drawn_spec N A l cap B bs bc C cz cc mv O (hr.up0 F) hl hN hok (hB.up0 F) bi (hC.up0 F) bt) ?_);rintro _ _ ⟨ct,J,R,Ab,Ac,X,U,mb,mc,ms,rfl,rfl,ap,ak,ao,bk⟩;dsimp only [aK,aJ];refine aB 3 rfl<|f_S (cQ Tryz.zeroValue34 rfl fun b7=>?_)
   refine f_Z (bP Tryz.sizeOf34 rfl rfl rfl rfl cF [.slice Ab J.length X,.slice Ac R.length U] rfl ?_);refine aB 1 rfl<|aD kh8<|aG fun kh9=>f_Q (aO (vs:=[_,_]) Tryz.isAgg24 Tryz.sizeOf24 rfl rfl ⟨(rdA rfl),(rdA rfl),trivial⟩)<|aB 1 rfl ?_
   refine f_S (aV Tryz.call13 rfl (fun O F=>Change_spec N A l cap K cs ck O (hr.up0 F) hA (hK.up0 F) hl hN hok) ?_);rintro _ _ ⟨sH,mH,rfl,rfl,Y⟩;obtain ⟨N2,l2,e2,bf⟩:∃ a b c,oI N l cs=(a,b,c):=⟨_,_,_,rfl⟩
   rw [bf] at Y ⊢;dsimp only at Y ⊢;obtain ⟨AH,cH,rfl,cm⟩:=Y.val
   dsimp only [aK,aJ];refine aB 3 rfl<|f_S (cQ Tryz.zeroValue24 rfl fun b9=>?_)
   refine f_Z (bP Tryz.sizeOf24 rfl rfl rfl rfl cF [.int .i64 N2,.slice AH l2.length cH] rfl ?_);refine aB 1 rfl<|aD kh9<|aS fun kh10=>aG fun kh11=>aB 3 rfl<|m4 47 rfl (fun g47=>?_) (fun g47=>?_)
   ·refine aB 3 rfl<|aD kh11<|fI rfl<|aG fun kh12=>aB 1 rfl<|aD kh12<|aY<|cV ?_
    exact bJ [] Tryz.results4 rfl aP ⟨rfl,rfl⟩
   ·refine aB 3 rfl<|aD kh11<|aX rfl (fun c50=>?_) (fun c50=>?_)
    ·refine aG fun aw=>aB 1 rfl<|aD aw<|aY<|cV ?_
     exact bJ [] Tryz.results4 rfl aP ⟨rfl,rfl⟩
    ·obtain ⟨n,rfl,ad⟩:=bk (by simpa using g47)
     obtain rfl:e2=0:=by simpa using c50
     obtain ⟨rfl,rfl,a2,au⟩:=change_zero bf
     have ai:=lV cs l
     have b2:SameEnds l (chg l cs):=⟨ai.symm,fun i h h' =>chg_ends cs l i h h'⟩
     have ah:(cG (n:Int) (chg l cs)).2=0:=by rw [gcheck_same ai (fun k h h' =>chg_ends cs l k h h') a1]
     have ag:=nest_other ad ah
     have aa:=chg_ok bq hok
     obtain ⟨cw,cB,hlen,cp⟩:=bS a1
     have bw:=ad.len
     rw [d5] at bw;have cf:=ad.many
     have b5:rD (chg l cs) (cs.map (·.arc)):=fun x hx=>by
       obtain ⟨c,hc,rfl⟩:=List.mem_map.1 hx
       have:=au c hc
       exact ⟨c.arc.toNat,aA,aA⟩
     refine bV kh10<|aG fun kh14=>f_Q (aO (vs:=[_,_]) Tryz.isAgg24 Tryz.sizeOf24 rfl rfl ⟨(rdA rfl),(rdA rfl),trivial⟩)<|f_Q (aO (vs:=[_,_]) Tryz.isAgg34 Tryz.sizeOf34 rfl rfl ⟨(rdA rfl),(rdA rfl),trivial⟩) ?_
     refine f_S (aV Tryz.call14 rfl (fun O F=>All_spec n A l cap Ab J X Ac R U 0 O ⟨hr.up0 F,hok,nest_ro F ap ak ao rfl aA,ad⟩ ⟨by decide,by decide⟩) ?_);rintro _ _ ⟨Os,vs,rs,ds,bo,rfl,rfl,b1,am⟩;dsimp only [aK,aJ];refine aB 5 rfl<|aD kh14<|aG fun kh15=>aB 1 rfl<|aD kh15<|aS fun kh16=>aG fun be=>aB 1 rfl<|dU sl50 rfl<|aB 1 rfl ?_
     refine aD be<|aR ?_
     refine dA (α:=Nat×Value×Seg) [3,7,9,10,11,57,58] (fun ⟨k,ov,om⟩=>[(59,.int .i64 (k:Int)),(12,ov)]) (fun ⟨k,ov,om⟩=>[om,[(bo,blk vs 141)],rs.flatten,ds.flatten,mb,mc,ms.flatten,mH,[(b7,blk [.slice Ab J.length X,.slice Ac R.length U] 34)],[(b9,blk [.int .i64 (n:Int),.slice AH (chg l cs).length cH] 24)],[(b3,blk [.int .i64 (n:Int),.slice A l.length cap] 24)]]) (fun ⟨k,ov,om⟩=>k≤cs.length∧Own 3 1 ov ((cs.map (·.arc)).take k).length (bF ((cs.map (·.arc)).take k)) om) (fun ⟨k,ov,om⟩=>cs.length - k) (0,.slice none 0 0,[]) ?_ ?_ ?_ ?_
     ·exact aF
     ·exact aC
     ·exact ⟨Nat.zero_le _,by rw [List.take_zero];exact Own.nil _ _⟩
     ·rintro ⟨k,ov,om⟩ ⟨cj,ae⟩;refine aG fun kh18=>aB 1 rfl<|aD kh18<|aS fun kh19=>aX rfl (fun b6=>?_) (fun b6=>?_)
      ·have hk:k<cs.length:=aA
       obtain ⟨bK,oK,rfl,b8,cd⟩:=hK (eX mF lK aA hk)
       have bB:(cs.map (·.arc)).take (k+1)=(cs.map (·.arc)).take k++[cs[k].arc]:=by rw [List.take_succ_eq_append_getElem (by rw [List.length_map];exact hk),List.getElem_map]
       have br:((cs.map (·.arc)).take k).length=k:=by rw [List.length_take,List.length_map];omega
       refine bV kh19<|aS fun kh20=>aR<|aG fun kh21=>f_Q (aL sl50 rfl rfl (oK+k*2))<|f_Q (aO (vs:=mF cs[k]) Tryz.isAgg58 Tryz.sizeOf58 rfl rfl (f8 lK b8 cd hk))<|f_S (cQ Tryz.zeroValue58 rfl fun b14=>?_)
       refine f_Z (bP Tryz.sizeOf58 rfl rfl rfl rfl cF (mF cs[k]) rfl ?_);refine aD kh21<|aI<|aB 1 rfl<|cL fa58_0 rfl<|cX Tryz.isAgg3 rfl (rdA rfl)<|f_S (bQ eL aA rfl rfl rfl fun b66=>?_)
       refine f_S (dE eL rfl rfl ae (ys:=[.int .i64 cs[k].arc]) ⟨(rdA rfl),trivial⟩ rfl rfl aA aA fun ce bD bC=>?_);refine aB 1 rfl<|aZ<|dF<|bO kh20<|aI<|f_Q (a8 rfl rfl)<|aB 1 rfl<|aZ ?_
       refine cS (a6 (k+1,ce,bD) (by first|omega|(dsimp only;omega)|(simp;omega)) ⟨aA,by rw [bB,← nP];exact bC⟩ ?_ ?_ ?_)
       ·exact aF
       ·exact aF
       ·exact aC
      ·obtain rfl:k=cs.length:=aA
       rw [List.take_of_length_le (by rw [List.length_map];exact Nat.le_refl _)] at ae;obtain ⟨Ao,co,rfl,cn⟩:=ae.val
       refine cN<|cO<|cO<|eC<|bO kh16<|aG fun kh22=>f_Q (aO (vs:=[_,_]) Tryz.isAgg24 Tryz.sizeOf24 rfl rfl ⟨(rdA rfl),(rdA rfl),trivial⟩)<|f_Q (aO (vs:=[_,_]) Tryz.isAgg34 Tryz.sizeOf34 rfl rfl ⟨(rdA rfl),(rdA rfl),trivial⟩)<|aB 2 rfl ?_
       refine f_S (aV Tryz.call15 rfl (fun O F=>(by
         obtain ⟨O',cg,Z,aj⟩:=b1.ro bo F (by rw [am.len];omega)
         have al:O'.length=J.length:=by rw [← jV,Z,am.len]
         have h:=Renew_spec n AH (chg l cs) cH Ab J X Ac R U (some ⟨bo,0,none⟩) O' J.length Ao (cs.map (·.arc)) co 1 0 l O ⟨eS (Y.seen F),aa,nest_ro F ap ak ao rfl aA,ag⟩ aj (eS (ae.seen F)) (by rw [List.length_map];exact a2) b5 ⟨by decide,by decide⟩ ⟨by decide,by decide⟩ (by rw [Z];exact am) b2 (chg_diff (fun c hc=>(au c hc).1))
         rw [al] at h;exact h)) ?_)
       rintro _ _ ⟨cy,ay,av,bh,ac,an,rfl,rfl,bM,ab⟩;dsimp only [aK,aJ];refine aB 7 rfl<|aD kh22<|aS fun kh23=>aG fun bg=>aB 3 rfl<|iY 80 rfl aN<|aB 3 rfl<|aD bg<|dX rfl aN<|bV kh23 ?_
       refine aS fun kh25=>aG fun aq=>aB 1 rfl<|aD aq<|aR ?_
       refine dA (α:=Nat) [3,7,9,15] (fun s=>[(18,.int .i64 (s:Int))]) (fun s=>[[(ac,blk ay 141)],av.flatten,bh.flatten,mb,mc,ms.flatten,mH,[(b7,blk [.slice Ab J.length X,.slice Ac R.length U] 34)],[(b9,blk [.int .i64 (n:Int),.slice AH (chg l cs).length cH] 24)],[(b3,blk [.int .i64 (n:Int),.slice A l.length cap] 24)]]) (fun s=>s≤n+n) (fun s=>n+n - s) (0) ?_ ?_ ?_ ?_
       ·exact aF
       ·exact aC
       ·exact Nat.zero_le _
       ·rintro s cq;refine fF (e:=[(18,_),(3,_),(7,_),(9,_),(15,_)]) aF ?_;refine aS fun ax=>aG fun kh28=>aB 1 rfl<|cL eT rfl<|cX Tryz.isAgg3 rfl (rdA rfl)<|aB 1 rfl<|aD kh28<|aX rfl (fun c87=>?_) (fun c87=>?_)
        ·have bj:s<n:=aA
         have ba:iA (n:Int) (chg l cs) [(s:Int)]=0:=by unfold iA;rw [if_neg (by rw [ah];simp),if_neg (by simp;omega)]
         refine bV ax<|aS fun kh29=>aR<|aG fun kh30=>f_Q (aO (vs:=[_,_]) Tryz.isAgg24 Tryz.sizeOf24 rfl rfl ⟨(rdA rfl),(rdA rfl),trivial⟩)<|aB 1 rfl ?_
         refine f_S (aV Tryz.call16 rfl (fun O F=>From_spec (n:Int) AH (chg l cs) cH (s:Int) O (eS (Y.seen F)) aA hN aa) ?_);rintro _ _ ⟨vW,mW,W,rfl,rfl,az,_,bY⟩;rw [ba];have hW:=(bY ba).1
         rw [Int.toNat_natCast,Int.toNat_natCast,nB] at hW;have cr:=hW.len
         obtain ⟨AW,cW,rfl,cv⟩:=az.val
         obtain ⟨bW,bu,rfl,rfl⟩:=az.at_ aA
         dsimp only [aK,aJ];refine aB 5 rfl<|aD kh30<|aG fun kh31=>cL eT rfl<|cX Tryz.isAgg3 rfl (rdA rfl)<|aB 1 rfl<|aD kh31<|aR ?_
         refine dA (α:=Nat) [3,7,9,15,18,19,20,101] (fun t=>[(102,.int .i64 (t:Int))]) (fun t=>[[(ac,blk ay 141)],av.flatten,bh.flatten,mb,mc,ms.flatten,mH,[(b7,blk [.slice Ab J.length X,.slice Ac R.length U] 34)],[(b9,blk [.int .i64 (n:Int),.slice AH (chg l cs).length cH] 24)],[(b3,blk [.int .i64 (n:Int),.slice A l.length cap] 24)],[(bW,blk (fH W++bu) 46)]]) (fun t=>t≤n) (fun t=>n - t) (0) ?_ ?_ ?_ ?_
         ·exact aF
         ·exact aC
         ·exact Nat.zero_le _
         ·rintro t br;refine fF (e:=[(102,_),(3,_),(7,_),(9,_),(15,_),(18,_),(19,_),(20,_),(101,_)]) aF ?_;refine aG fun kh32=>aB 1 rfl<|aD kh32<|aS fun kh33=>aX rfl (fun ar=>?_) (fun ar=>?_)
          ·have cu:t<n:=aA
           refine bV kh33<|aS fun kh34=>aR<|aG fun kh35=>aB 2 rfl<|aD kh35<|aG fun kh36=>f_Q (aO (vs:=[_,_]) Tryz.isAgg24 Tryz.sizeOf24 rfl rfl ⟨(rdA rfl),(rdA rfl),trivial⟩)<|f_Q (aO (vs:=[_,_]) Tryz.isAgg34 Tryz.sizeOf34 rfl rfl ⟨(rdA rfl),(rdA rfl),trivial⟩)<|aB 3 rfl ?_
           refine f_S (aV Tryz.call17 rfl (fun O F=>(by
             obtain ⟨O',cg,Z,aj⟩:=bM.ro ac F (by rw [ab.len];omega)
             have al:O'.length=J.length:=by rw [← jV,Z,ab.len]
             have h:=qDist_spec n AH (chg l cs) cH Ab J X Ac R U (some ⟨ac,0,none⟩) O' J.length 1 s t O ⟨eS (Y.seen F),aa,nest_ro F ap ak ao rfl aA,ag⟩ aj (by decide) (by rw [Z];exact ab) bj aA
             rw [al] at h;exact h)) ?_)
           rintro _ _ ⟨x,rfl,rfl,hx⟩;obtain rfl:=hx.unique (hW.isB (t:=t) aA)
           dsimp only [aK,aJ];refine aB 5 rfl<|aD kh36<|aG fun kh37=>aB 3 rfl<|iY 116 rfl aN<|aB 4 rfl<|iY 120 rfl aN<|aB 3 rfl<|eA rfl rfl (aL mS rfl rfl (t))<|eA rfl rfl (aH Tryz.isAgg46 rfl (rdA (eF (mQ (dg_at aA))))) ?_
           refine aB 2 rfl<|aD kh37<|dX rfl aN<|dY<|dF<|bO kh34<|aI<|f_Q (a8 rfl rfl)<|aB 1 rfl<|aZ ?_
           refine cS (a6 (t+1) (by first|omega|(dsimp only;omega)|(simp;omega)) aA ?_ ?_ ?_)
           ·exact aF
           ·exact aF
           ·exact aC
          ·refine cN<|cO<|cO<|eC<|dF<|bO kh29<|aI<|aB 1 rfl<|cL eT rfl<|cX Tryz.isAgg3 rfl (rdA rfl) ?_
           refine f_Q (o_quo rfl rfl (by decide) ((n / 5:Nat):Int) (by rw [show (5:Int)=((5:Nat):Int) from rfl,tdiv_nat];exact wrap_q aA)) ?_;refine f_Q (a8 rfl rfl)<|f_Q (a8 rfl rfl)<|aB 1 rfl<|aZ ?_
           refine cS (a6 (s+(1+n / 5)) (by first|omega|(dsimp only;omega)|(simp;omega)) aA ?_ ?_ ?_)
           ·exact aF
           ·exact aF
           ·exact aC
        ·refine cN<|cO<|cO<|eC<|bO kh25<|aG fun kh38=>aB 1 rfl<|aD kh38<|aY ?_
         exact bJ [] Tryz.results4 rfl aP ⟨rfl,rfl⟩
theorem rdArc {H:Type} {enc:TypeId×Value→H} (W:World):Reads enc Tryz.prog W 69 bZ eK:=
 reads_arc Tryz.underlying69 (by kernel_rfl) ⟨rfl,by kernel_rfl⟩ ⟨rfl,by kernel_rfl⟩ ⟨rfl,by kernel_rfl⟩ Tryz.underlying3 Tryz.underlying3 Tryz.underlying56
theorem rdGraph {H:Type} {enc:TypeId×Value→H} (W:World):Reads enc Tryz.prog W 24 (fun x:Int×Option Addr×List Arc×Nat=>[.int .i64 x.1,.slice x.2.1 x.2.2.1.length x.2.2.2]) (fun x=>GrIn W x.1 x.2.1 x.2.2.1 x.2.2.2):=
 reads_graph Tryz.underlying24 (by kernel_rfl) ⟨rfl,by kernel_rfl⟩ ⟨rfl,by kernel_rfl⟩ Tryz.underlying3 Tryz.underlying22 (by kernel_rfl) (rdArc W)
theorem rdDraw {H:Type} {enc:TypeId×Value→H} (W:World):Reads enc Tryz.prog W 27 (fun x:(Option Addr×List Int×Nat)×(Option Addr×List Int×Nat)×Int=>[.slice x.1.1 x.1.2.1.length x.1.2.2,.slice x.2.1.1 x.2.1.2.1.length x.2.1.2.2,.int .i64 x.2.2]) (fun x=>SlIn W (fun n:Int=>[.int .i64 n]) I64 x.1.1 x.1.2.1 x.1.2.2∧SlIn W (fun n:Int=>[.int .i64 n]) I64 x.2.1.1 x.2.1.2.1 x.2.1.2.2∧I64 x.2.2):=
 reads3 (ca:=fun x:Option Addr×List Int×Nat=> .slice x.1 x.2.1.length x.2.2) (cb:=fun x:Option Addr×List Int×Nat=> .slice x.1 x.2.1.length x.2.2) (cc:=fun n=> .int .i64 n) Tryz.underlying27 (by kernel_rfl) ⟨rfl,by kernel_rfl⟩ ⟨rfl,by kernel_rfl⟩ ⟨rfl,by kernel_rfl⟩
  (n7 (cells:=fun n:Int=>[.int .i64 n]) (sz:=1) Tryz.underlying25 (by kernel_rfl) (fun _=>rfl) aA (reads_i64 Tryz.underlying3))
  (n7 (cells:=fun n:Int=>[.int .i64 n]) (sz:=1) Tryz.underlying25 (by kernel_rfl) (fun _=>rfl) aA (reads_i64 Tryz.underlying3)) (reads_i64 Tryz.underlying3)
theorem rdChg {H:Type} {enc:TypeId×Value→H} (W:World):Reads enc Tryz.prog W 58 mF ChgOk:=
 (reads2 Tryz.underlying58 (by kernel_rfl) ⟨rfl,by kernel_rfl⟩ ⟨rfl,by kernel_rfl⟩ (ca:=fun n=> .int .i64 n) (cb:=fun n=> .int .u32 n) (lD Tryz.underlying3) (lD Tryz.underlying56)).map (fun x=>(⟨x.1,x.2⟩:Chg)) (fun x=>rfl)
  fun x hx=>⟨i64_wf hx.1,u32_wf hx.2⟩
end Go.Proofs.YthpkelafioikaaaGreat
