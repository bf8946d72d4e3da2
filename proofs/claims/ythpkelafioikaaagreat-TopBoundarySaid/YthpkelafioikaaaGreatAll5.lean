import Derived.Test.YthpkelafioikaaaGreatFlyRun
import Derived.Test.YthpkelafioikaaaGreatAll4
import Derived.Test.YthpkelafioikaaaGreatAll0
import Derived.Test.YthpkelafioikaaaGreatAll3
namespace Go.Proofs.YthpkelafioikaaaGreat
open Go Go.RowKit Fly
set_option maxRecDepth 100000
set_option maxHeartbeats 4000000
set_option linter.all false
theorem looks_new {n s:Nat} (hs:s<n):(jV (List.replicate n none) (s:Int) 0).1=(List.replicate n none).set s (some 0):=by
 rw [lower_new (by simpa using hs) (by rw [List.getElem?_replicate,if_pos hs])]
theorem u64s_rep (n:Nat) (x:Int):List.replicate n (Value.int .u64 x)=eT (List.replicate n x):=by simp [eT]
theorem ints_repl (n:Nat) (x:Int):List.replicate n (Value.int .i64 x)=a8 (List.replicate n x):=by simp [a8]
theorem q9 {n:Nat} {A:Option Addr} {l:List Arc} {cap len:Nat} {back:Bool} {bx bo bd bb bH:Nat} {vs:List Value} {ms:List Seg} {d by_:List Int} {T:List (Option Int)} {hm:Seg} (J:RowsI 3 (kL n (l.map (trn back))) vs ms) (F:HRep T bH hm) (hl:len=l.length):
  SRep n A l cap back bx bd d by_ T (jA bx bo bd bb bH n A len cap back vs ms.flatten d by_ hm).flatten:=by
 subst hl;exact ⟨bo,bb,bH,vs,ms,hm,List.Perm.refl _,J,F⟩
def D0 (n s:Nat):List Int:=(List.replicate n INF).set s 0
def B0 (n:Nat):List Int:=List.replicate n (-1)
def T0 (n s:Nat):List (Option Int):=(List.replicate n none).set s (some 0)
theorem jX {n s:Nat} {e:List Arc} {p:Nat→Bool} (hs:s<n):SS n e p s (D0 n s) (B0 n) (T0 n s) [] (RF e []):=
 (SS.begin hs).weaken fun j ⟨_,h⟩=>by simp at h
def NextΦ (n:Nat) (A:Option Addr) (l:List Arc) (cap:Nat) (back:Bool) (p:Nat→Bool) (s bx bd:Nat) (d by_:List Int) (T:List (Option Int)) (o:List Nat) (u:Value) (own:List Seg):Prop:=
 (topR T=none∧u= .tuple #[.int .i64 0,.int .u64 0,.bool false]∧∃ m',own=[m']∧SRep n A l cap back bx bd d by_ T m')∨
 ∃ (v:Nat) (a:Int) (F J:List Int) (O:List (Option Int)) (m' :Seg),topR T=some (v,a)∧u= .tuple #[.int .i64 (v:Int),.int .u64 a,.bool true]∧own=[m']∧SRep n A l cap back bx bd F J O m'∧v<n∧v∉o∧dg d v=a∧
  SS n (l.map (trn back)) p s F J O (v::o) (RF (l.map (trn back)) (v::o))∧(∀ (u:Nat) (x:Int),O[u]? =some (some x)→a≤x)∧(∀ u,dg F u≤dg d u)∧dg F v=a∧0≤a∧a<INF∧
  (∀ u,dg F u=dg d u∨∃ (i:Nat) (h:i<(l.map (trn back)).length),(l.map (trn back))[i].src.toNat=v∧(l.map (trn back))[i].dst.toNat=u)
theorem q7 (n:Nat) (A:Option Addr) (l:List Arc) (cap:Nat) (back:Bool) (s:Nat) (w:World) (hr:Ro (Fr w []) w A (l.flatMap cH)) (hg:GOk n l) (hs:s<n):
    Meets Tryz.prog 27 [.agg #[.int .i64 (n:Int),.slice A l.length cap],.int .i64 (s:Int),.bool back] w [] (fun u own' =>∃ bx bd m,u= .pointer (some ⟨bx,0,none⟩)∧own' =[m]∧SRep n A l cap back bx bd (D0 n s) (B0 n) (T0 n s) m):=by
 have ae:=hg.n1
 have hlen:=hg.len
 refine bG Tryz.func27 rfl Tryz.ntmps27 rfl Owns.nil<|aG fun kh1=>f_S (cZ rfl rfl fun b3=>?_)
 refine aB 1 rfl<|aD kh1 ?_
 refine oU (α:=Nat×Nat×Nat×Nat×List Value×List Seg) [1,3] (fun ⟨bx,bo,bd,bb,vs,ms⟩=>[(7,.pointer (some ⟨bx,0,none⟩))]) (fun ⟨bx,bo,bd,bb,vs,ms⟩=>[[(bx,blk (gQ n A l.length cap back bo bd bb (.pointer none)) 81)],[(bo,blk vs 25)],ms.flatten,[(bd,blk (List.replicate n (.int .u64 18446744073709551615)) 46)],[(bb,blk (List.replicate n (.int .i64 (-1))) 3)],[(b3,blk [.int .i64 (n:Int),.slice A l.length cap] 24)]]) (fun ⟨bx,bo,bd,bb,vs,ms⟩=>RowsI 3 (kL n (l.map (trn back))) vs ms) ?_ ?_
 ·intro K2 Y;refine cQ [[(b3,blk [.int .i64 (n:Int),.slice A l.length cap] 24)]] rfl<|f_T 0 rfl (aQ (vs:=[_,_]) Tryz.isAgg24 Tryz.sizeOf24 rfl rfl ⟨(rdA rfl),(rdA rfl),trivial⟩)<|f_T 1 rfl (aR rfl)<|f_T 2 rfl (aQ (vs:=[_,_]) Tryz.isAgg24 Tryz.sizeOf24 rfl rfl ⟨(rdA rfl),(rdA rfl),trivial⟩)<|f_T 3 rfl (aR rfl)<|f_T 6 rfl (aT eV rfl)<|f_T 7 rfl (aH Tryz.isAgg3 rfl (rdA rfl))<|f_T 10 rfl (aT eV rfl)<|f_T 11 rfl (aH Tryz.isAgg3 rfl (rdA rfl))<|f_three 4 5 9 rfl rfl rfl aU rfl rfl rfl rfl rfl rfl rfl rfl rfl ?_ ?_ ?_
  ·refine (aW Tryz.call62 rfl (fun O F=>pH n A l cap back O (hr.up0 F) hg) ?_);rintro _ _ ⟨bo,vs,ms,rfl,rfl,Z⟩;dsimp only [aK,aJ];refine ⟨aC,?_⟩;refine gD 5 9 rfl rfl aU rfl rfl rfl rfl rfl rfl ?_ ?_
   ·refine (bX qV aA rfl rfl rfl fun U=>⟨aC,?_⟩);refine gD 8 9 rfl rfl aU rfl rfl rfl rfl rfl rfl ?_ ?_
    ·refine (aW Tryz.call26 rfl (fun O F=>i7 U 0 1 n 18446744073709551615 O (fK (b:=U) F (cs:=[.int .u64 18446744073709551615]) (fun j v hj=>hj)) aA) ?_);rintro _ _ ⟨bd,rfl,rfl⟩;dsimp only [aK,aJ];refine ⟨aC,?_⟩;refine f_O 9 rfl (bX eO aA rfl rfl rfl fun J=>⟨aC,?_⟩);refine f_O 12 rfl (aW Tryz.call63 rfl (fun O F=>j4 J 0 1 n (-1) O (fK (b:=J) F (cs:=[.int .i64 (-1)]) (fun j v hj=>hj)) aA) ?_);rintro _ _ ⟨bb,rfl,rfl⟩;dsimp only [aK,aJ];refine ⟨aC,?_⟩;refine f_T 13 rfl (dU (cs:=gQ n A l.length cap back bo bd bb (.pointer none)) st81 rfl (by kernel_rfl)) ?_;refine f_O 14 rfl (cZ rfl rfl fun X=>⟨aC,?_⟩);refine f_O 15 rfl ((bI rfl).does ⟨aC,?_⟩);refine cO aU<|cV (Y _ _ (X,bo,bd,bb,vs,ms) Z ?_ ?_ ?_)
     ·exact aF
     ·exact aF
     ·exact aC
    ·refine (bX eO aA rfl rfl rfl fun J=>⟨aC,?_⟩);refine f_O 8 rfl (aW Tryz.call26 rfl (fun O F=>i7 U 0 1 n 18446744073709551615 O (fK (b:=U) F (cs:=[.int .u64 18446744073709551615]) (fun j v hj=>hj)) aA) ?_);rintro _ _ ⟨bd,rfl,rfl⟩;dsimp only [aK,aJ];refine ⟨aC,?_⟩;refine f_O 12 rfl (aW Tryz.call63 rfl (fun O F=>j4 J 0 1 n (-1) O (fK (b:=J) F (cs:=[.int .i64 (-1)]) (fun j v hj=>hj)) aA) ?_);rintro _ _ ⟨bb,rfl,rfl⟩;dsimp only [aK,aJ];refine ⟨aC,?_⟩;refine f_T 13 rfl (dU (cs:=gQ n A l.length cap back bo bd bb (.pointer none)) st81 rfl (by kernel_rfl)) ?_;refine f_O 14 rfl (cZ rfl rfl fun X=>⟨aC,?_⟩);refine f_O 15 rfl ((bI rfl).does ⟨aC,?_⟩);refine cO aU<|cV (Y _ _ (X,bo,bd,bb,vs,ms) Z ?_ ?_ ?_)
     ·exact aF
     ·exact aF
     ·exact aC
   ·refine (bX eO aA rfl rfl rfl fun J=>⟨aC,?_⟩);refine f_O 5 rfl (bX qV aA rfl rfl rfl fun U=>⟨aC,?_⟩);refine f_O 8 rfl (aW Tryz.call26 rfl (fun O F=>i7 U 0 1 n 18446744073709551615 O (fK (b:=U) F (cs:=[.int .u64 18446744073709551615]) (fun j v hj=>hj)) aA) ?_);rintro _ _ ⟨bd,rfl,rfl⟩;dsimp only [aK,aJ];refine ⟨aC,?_⟩;refine f_O 12 rfl (aW Tryz.call63 rfl (fun O F=>j4 J 0 1 n (-1) O (fK (b:=J) F (cs:=[.int .i64 (-1)]) (fun j v hj=>hj)) aA) ?_);rintro _ _ ⟨bb,rfl,rfl⟩;dsimp only [aK,aJ];refine ⟨aC,?_⟩;refine f_T 13 rfl (dU (cs:=gQ n A l.length cap back bo bd bb (.pointer none)) st81 rfl (by kernel_rfl)) ?_;refine f_O 14 rfl (cZ rfl rfl fun X=>⟨aC,?_⟩);refine f_O 15 rfl ((bI rfl).does ⟨aC,?_⟩);refine cO aU<|cV (Y _ _ (X,bo,bd,bb,vs,ms) Z ?_ ?_ ?_)
    ·exact aF
    ·exact aF
    ·exact aC
  ·refine (bX qV aA rfl rfl rfl fun U=>⟨aC,?_⟩);refine gD 4 9 rfl rfl aU rfl rfl rfl rfl rfl rfl ?_ ?_
   ·refine (aW Tryz.call62 rfl (fun O F=>pH n A l cap back O (hr.up0 F) hg) ?_);rintro _ _ ⟨bo,vs,ms,rfl,rfl,Z⟩;dsimp only [aK,aJ];refine ⟨aC,?_⟩;refine gD 8 9 rfl rfl aU rfl rfl rfl rfl rfl rfl ?_ ?_
    ·refine (aW Tryz.call26 rfl (fun O F=>i7 U 0 1 n 18446744073709551615 O (fK (b:=U) F (cs:=[.int .u64 18446744073709551615]) (fun j v hj=>hj)) aA) ?_);rintro _ _ ⟨bd,rfl,rfl⟩;dsimp only [aK,aJ];refine ⟨aC,?_⟩;refine f_O 9 rfl (bX eO aA rfl rfl rfl fun J=>⟨aC,?_⟩);refine f_O 12 rfl (aW Tryz.call63 rfl (fun O F=>j4 J 0 1 n (-1) O (fK (b:=J) F (cs:=[.int .i64 (-1)]) (fun j v hj=>hj)) aA) ?_);rintro _ _ ⟨bb,rfl,rfl⟩;dsimp only [aK,aJ];refine ⟨aC,?_⟩;refine f_T 13 rfl (dU (cs:=gQ n A l.length cap back bo bd bb (.pointer none)) st81 rfl (by kernel_rfl)) ?_;refine f_O 14 rfl (cZ rfl rfl fun X=>⟨aC,?_⟩);refine f_O 15 rfl ((bI rfl).does ⟨aC,?_⟩);refine cO aU<|cV (Y _ _ (X,bo,bd,bb,vs,ms) Z ?_ ?_ ?_)
     ·exact aF
     ·exact aF
     ·exact aC
    ·refine (bX eO aA rfl rfl rfl fun J=>⟨aC,?_⟩);refine f_O 8 rfl (aW Tryz.call26 rfl (fun O F=>i7 U 0 1 n 18446744073709551615 O (fK (b:=U) F (cs:=[.int .u64 18446744073709551615]) (fun j v hj=>hj)) aA) ?_);rintro _ _ ⟨bd,rfl,rfl⟩;dsimp only [aK,aJ];refine ⟨aC,?_⟩;refine f_O 12 rfl (aW Tryz.call63 rfl (fun O F=>j4 J 0 1 n (-1) O (fK (b:=J) F (cs:=[.int .i64 (-1)]) (fun j v hj=>hj)) aA) ?_);rintro _ _ ⟨bb,rfl,rfl⟩;dsimp only [aK,aJ];refine ⟨aC,?_⟩;refine f_T 13 rfl (dU (cs:=gQ n A l.length cap back bo bd bb (.pointer none)) st81 rfl (by kernel_rfl)) ?_;refine f_O 14 rfl (cZ rfl rfl fun X=>⟨aC,?_⟩);refine f_O 15 rfl ((bI rfl).does ⟨aC,?_⟩);refine cO aU<|cV (Y _ _ (X,bo,bd,bb,vs,ms) Z ?_ ?_ ?_)
     ·exact aF
     ·exact aF
     ·exact aC
   ·refine (bX eO aA rfl rfl rfl fun J=>⟨aC,?_⟩);refine f_O 4 rfl (aW Tryz.call62 rfl (fun O F=>pH n A l cap back O (hr.up0 F) hg) ?_);rintro _ _ ⟨bo,vs,ms,rfl,rfl,Z⟩;dsimp only [aK,aJ];refine ⟨aC,?_⟩;refine f_O 8 rfl (aW Tryz.call26 rfl (fun O F=>i7 U 0 1 n 18446744073709551615 O (fK (b:=U) F (cs:=[.int .u64 18446744073709551615]) (fun j v hj=>hj)) aA) ?_);rintro _ _ ⟨bd,rfl,rfl⟩;dsimp only [aK,aJ];refine ⟨aC,?_⟩;refine f_O 12 rfl (aW Tryz.call63 rfl (fun O F=>j4 J 0 1 n (-1) O (fK (b:=J) F (cs:=[.int .i64 (-1)]) (fun j v hj=>hj)) aA) ?_);rintro _ _ ⟨bb,rfl,rfl⟩;dsimp only [aK,aJ];refine ⟨aC,?_⟩;refine f_T 13 rfl (dU (cs:=gQ n A l.length cap back bo bd bb (.pointer none)) st81 rfl (by kernel_rfl)) ?_;refine f_O 14 rfl (cZ rfl rfl fun X=>⟨aC,?_⟩);refine f_O 15 rfl ((bI rfl).does ⟨aC,?_⟩);refine cO aU<|cV (Y _ _ (X,bo,bd,bb,vs,ms) Z ?_ ?_ ?_)
    ·exact aF
    ·exact aF
    ·exact aC
  ·refine (bX eO aA rfl rfl rfl fun J=>⟨aC,?_⟩);refine gD 4 5 rfl rfl aU rfl rfl rfl rfl rfl rfl ?_ ?_
   ·refine (aW Tryz.call62 rfl (fun O F=>pH n A l cap back O (hr.up0 F) hg) ?_);rintro _ _ ⟨bo,vs,ms,rfl,rfl,Z⟩;dsimp only [aK,aJ];refine ⟨aC,?_⟩;refine f_O 5 rfl (bX qV aA rfl rfl rfl fun U=>⟨aC,?_⟩);refine f_O 8 rfl (aW Tryz.call26 rfl (fun O F=>i7 U 0 1 n 18446744073709551615 O (fK (b:=U) F (cs:=[.int .u64 18446744073709551615]) (fun j v hj=>hj)) aA) ?_);rintro _ _ ⟨bd,rfl,rfl⟩;dsimp only [aK,aJ];refine ⟨aC,?_⟩;refine f_O 12 rfl (aW Tryz.call63 rfl (fun O F=>j4 J 0 1 n (-1) O (fK (b:=J) F (cs:=[.int .i64 (-1)]) (fun j v hj=>hj)) aA) ?_);rintro _ _ ⟨bb,rfl,rfl⟩;dsimp only [aK,aJ];refine ⟨aC,?_⟩;refine f_T 13 rfl (dU (cs:=gQ n A l.length cap back bo bd bb (.pointer none)) st81 rfl (by kernel_rfl)) ?_;refine f_O 14 rfl (cZ rfl rfl fun X=>⟨aC,?_⟩);refine f_O 15 rfl ((bI rfl).does ⟨aC,?_⟩);refine cO aU<|cV (Y _ _ (X,bo,bd,bb,vs,ms) Z ?_ ?_ ?_)
    ·exact aF
    ·exact aF
    ·exact aC
   ·refine (bX qV aA rfl rfl rfl fun U=>⟨aC,?_⟩);refine f_O 4 rfl (aW Tryz.call62 rfl (fun O F=>pH n A l cap back O (hr.up0 F) hg) ?_);rintro _ _ ⟨bo,vs,ms,rfl,rfl,Z⟩;dsimp only [aK,aJ];refine ⟨aC,?_⟩;refine f_O 8 rfl (aW Tryz.call26 rfl (fun O F=>i7 U 0 1 n 18446744073709551615 O (fK (b:=U) F (cs:=[.int .u64 18446744073709551615]) (fun j v hj=>hj)) aA) ?_);rintro _ _ ⟨bd,rfl,rfl⟩;dsimp only [aK,aJ];refine ⟨aC,?_⟩;refine f_O 12 rfl (aW Tryz.call63 rfl (fun O F=>j4 J 0 1 n (-1) O (fK (b:=J) F (cs:=[.int .i64 (-1)]) (fun j v hj=>hj)) aA) ?_);rintro _ _ ⟨bb,rfl,rfl⟩;dsimp only [aK,aJ];refine ⟨aC,?_⟩;refine f_T 13 rfl (dU (cs:=gQ n A l.length cap back bo bd bb (.pointer none)) st81 rfl (by kernel_rfl)) ?_;refine f_O 14 rfl (cZ rfl rfl fun X=>⟨aC,?_⟩);refine f_O 15 rfl ((bI rfl).does ⟨aC,?_⟩);refine cO aU<|cV (Y _ _ (X,bo,bd,bb,vs,ms) Z ?_ ?_ ?_)
    ·exact aF
    ·exact aF
    ·exact aC
 ·rintro ⟨bx,bo,bd,bb,vs,ms⟩ Z;refine aG fun ac=>aB 1 rfl<|cN eV rfl<|c7 Tryz.isAgg3 rfl (rdA rfl) ?_
  refine f_S (aW Tryz.call64 rfl (fun O F=>New_spec (n:Int) O) ?_);rintro _ _ hN;rw [NewΦ,if_neg aA,Int.toNat_natCast] at hN;obtain ⟨bH,ab,rfl,rfl,ad⟩:=hN
  dsimp only [aK,aJ];refine aB 3 rfl<|f_Q (dD rfl)<|cN fa81_5 rfl<|f_Z (bQ Tryz.sizeOf79 rfl rfl rfl rfl cG (gQ n A l.length cap back bo bd bb (.pointer (some ⟨bH,0,none⟩))) rfl ?_)
  refine aD ac<|aG fun kh4=>aB 1 rfl<|f_Q (dD rfl)<|cN oT rfl<|c7 Tryz.isAgg41 rfl (rdA rfl)<|aB 1 rfl<|f_Q (aM j6 rfl rfl (s))<|f_Z (bQ Tryz.sizeOf46 rfl rfl rfl rfl (by rw [List.length_replicate];omega) (eT (D0 n s)) (by rw [u64s_rep];exact o5 _ _ _) ?_)
  refine aD kh4<|aG fun kh5=>aB 1 rfl<|f_Q (dD rfl)<|cN fa81_5 rfl<|c7 Tryz.isAgg79 rfl (rdA rfl)<|aB 1 rfl ?_
  refine f_S (d5 [ab] _ Tryz.call65 rfl (aL Sub.refl) (fun O F=>lO (List.replicate n none) bH ab (s:Int) 0 O ad F.owns) ?_);rintro _ _ ⟨rfl,hm2,rfl,aa⟩;rw [looks_new hs] at aa;dsimp only [aK,aJ];refine aD kh5<|aG fun kh6=>aB 2 rfl<|aD kh6<|aZ ?_
  exact bO [(jA bx bo bd bb bH n A l.length cap back vs ms.flatten (D0 n s) (B0 n) hm2).flatten] Tryz.results27 rfl (Sub.flatF (by unfold jA B0;rw [← ints_repl];repeat (first|exact aP|refine aL ?_|refine bV rfl ?_))) ⟨bx,bd,_,rfl,rfl,q9 Z aa rfl⟩
theorem far_spec (n:Nat) (A:Option Addr) (l:List Arc) (cap:Nat) (back:Bool) (bx bo bd bb i:Nat) (h:Value) (w:World) (hx:Ro (Fr w []) w (some ⟨bx,0,none⟩) (gQ n A l.length cap back bo bd bb h)) (hr:Ro (Fr w []) w A (l.flatMap cH)) (hi:i<l.length) (hl:l.length≤8192):
    Meets Tryz.prog 34 [.pointer (some ⟨bx,0,none⟩),.int .i64 (i:Int)] w [] (fun u m=>u= .int .i64 (trn back l[i]).dst∧m=[]):=by
 obtain ⟨b',o',e',J,F⟩:=hx aO
 obtain ⟨rfl,rfl⟩:bx=b'∧0=o' :=by cases e';exact ⟨rfl,rfl⟩
 obtain ⟨bl,off,rfl,X,hc⟩:=hr (fH cH dO aA hi)
 refine bG Tryz.func34 rfl Tryz.ntmps34 rfl Owns.nil<|aG fun kh1=>aB 1 rfl<|aD kh1<|aV fun kh2=>aG fun O=>aB 1 rfl<|f_Q (dD rfl)<|cN fa81_1 rfl<|f_Q (aH Tryz.isAgg4 rfl (rdS J (F 2 _ rfl))) ?_
 refine aD O<|e8 rfl (fun c8=>?_) (fun c8=>?_)
 ·refine aG fun U=>aB 1 rfl<|f_Q (dD rfl)<|cN fa81_0 rfl<|cN gM rfl<|f_Q (aH Tryz.isAgg22 rfl (rdS J (F 1 _ rfl)))<|aB 1 rfl<|f_Q (aM j7 rfl rfl (off+i*3))<|cN gC rfl<|f_Q (aH Tryz.isAgg3 rfl (rdS X (by have:=hc (i*3+0) _ (by rw [i1 cH dO l i 0 hi aA];rfl);rwa [← Nat.add_assoc] at this))) ?_
  refine aB 1 rfl<|aD U<|aZ<|dA ?_
  exact bO [] Tryz.results34 rfl aP ⟨by subst c8;rfl,rfl⟩
 ·refine bZ kh2<|aG fun kh5=>aB 1 rfl<|f_Q (dD rfl)<|cN fa81_0 rfl<|cN gM rfl<|f_Q (aH Tryz.isAgg22 rfl (rdS J (F 1 _ rfl)))<|aB 1 rfl<|f_Q (aM j7 rfl rfl (off+i*3))<|cN fT rfl ?_
  refine f_Q (aH Tryz.isAgg3 rfl (rdS X (by have:=hc (i*3+1) _ (by rw [i1 cH dO l i 1 hi aA];rfl);rwa [← Nat.add_assoc] at this))) ?_;refine aB 1 rfl<|aD kh5<|aZ ?_
  exact bO [] Tryz.results34 rfl aP ⟨by subst c8;rfl,rfl⟩
theorem next_spec (n:Nat) (A:Option Addr) (l:List Arc) (cap:Nat) (back:Bool) (p:Nat→Bool) (s bx bd:Nat) (d by_:List Int) (T:List (Option Int)) (o:List Nat) (m:Seg) (fi:FuncId) (ac:List Value) (w:World) (hr:Ro (Fr w [m]) w A (l.flatMap cH)) (hg:GOk n l)
    (hS:SRep n A l cap back bx bd d by_ T m) (av:SS n (l.map (trn back)) p s d by_ T o (RF (l.map (trn back)) o))
    (ba:∀ args w,(callFunc fi args).run Tryz.prog w= .ok (.enter fi args) w)
    (ax:∀ w',(∀ k,Fr w [m] k→w'.heap[k]? =w.heap[k]?)→∀ i,i<l.length→Meets Tryz.prog fi ([.int .i64 (i:Int)]++ac) w' [] (fun u m=>u= .bool (p i)∧m=[])) (hw:Owns w [m]):
    Meets Tryz.prog 33 [.pointer (some ⟨bx,0,none⟩),.func (.func fi) #[] ac.toArray] w [m] (NextΦ n A l cap back p s bx bd d by_ T o):=by
 have bp:=hg.n1
 have hlen:=hg.len
 have bq:(l.map (trn back)).length=l.length:=List.length_map _
 have aj:=hg.dst back
 have ag:=hg.wt back
 refine bG Tryz.func33 rfl Tryz.ntmps33 rfl hw ?_;obtain ⟨bo,bb,bH,vs,ms,hm,aw,hR,hH⟩:=hS
 refine eP (Sub.permF aw) ?_
 unfold jA
 refine aG fun kh1=>aB 3 rfl<|aD kh1<|aG fun kh2=>aB 1 rfl<|f_Q (dD rfl)<|cN fa81_5 rfl<|c7 Tryz.isAgg79 rfl (rdA rfl) ?_
 refine f_S (d5 [hm] _ Tryz.call67 rfl (aL Sub.refl) (fun w_ U=>HPop_spec T bH hm w_ hH U.owns) ?_);rintro _ _ ⟨rfl,hm2,rfl,aa⟩;dsimp only [aK,aJ];refine aB 7 rfl<|aD kh2<|aV fun kh3=>aG fun kh4=>aB 2 rfl<|aD kh4<|aX rfl (fun c22=>?_) (fun c22=>?_)
 ·have Y:topR T=none:=by
    cases e' :topR T with
    |none=>rfl
    |some q=>obtain ⟨v,a⟩:=q;rw [lE e'] at c22;exact absurd rfl c22
  rw [popT_none Y] at aa;refine aG fun bc=>aB 3 rfl<|aD bc<|aZ<|dA ?_
  exact lA [(jA bx bo bd bb bH n A l.length cap back vs ms.flatten d by_ hm2).flatten] Tryz.results33 rfl rfl rfl (Sub.flatF (by unfold jA;repeat (first|exact aP|refine aL ?_|refine bV rfl ?_))) (.inl ⟨Y,rfl,_,rfl,q9 hR aa rfl⟩)
 ·obtain ⟨v,a,ht⟩:∃ v a,topR T=some (v,a):=by
    cases e' :topR T with
    |none=>rw [topA_none e'] at c22;exact absurd (by decide) c22
    |some q=>exact ⟨q.1,q.2,rfl⟩
  rw [lE ht];rw [popT_some ht] at aa;obtain ⟨am,au,ay,ao,hai,al⟩:=NX.start av ht
  have a1:=lF n (l.map (trn back))
  obtain ⟨rv,rm,rG,bh,ad,ai,_⟩:=hR.split (i:=v) aA
  rw [kK] at ad;obtain ⟨Ar,cr,rfl,bi⟩:=ad.val
  refine eP (Sub.splitF ai) ?_;have bk:(eR (l.map (trn back)) v).length≤8192:=by unfold eR;rw [kS];exact Nat.le_trans List.countP_le_length aA
  refine bZ kh3<|aV fun kh6=>aG fun bf=>aB 1 rfl<|f_Q (dD rfl)<|cN fa81_2 rfl<|c7 Tryz.isAgg32 rfl (rdA rfl)<|aB 1 rfl<|f_Q (aM g5 rfl rfl (v))<|f_Q (aH Tryz.isAgg25 rfl (rdA bh)) ?_
  refine dY bU rfl<|aB 1 rfl<|aD bf<|aS ?_
  refine dF (α:=Nat×List Int×List Int×List (Option Int)×Seg) [0,1,4,5,29,30] (fun ⟨j,X,F,Z,O⟩=>[(31,.int .i64 (j:Int))]) (fun ⟨j,X,F,Z,O⟩=>[[(bx,blk (gQ n A l.length cap back bo bd bb (.pointer (some ⟨bH,0,none⟩))) 81)],[(bo,blk vs 25)],rm,rG,[(bd,blk (eT X) 46)],[(bb,blk (a8 F) 3)],O]) (fun ⟨j,X,F,Z,O⟩=>j≤(eR (l.map (trn back)) v).length∧NX n (l.map (trn back)) p s d v a o j X F Z∧HRep Z bH O) (fun ⟨j,X,F,Z,O⟩=>(eR (l.map (trn back)) v).length - j) (0,d,by_,T.set v none,hm2) ?_ ?_ ?_ ?_
  ·exact aF
  ·exact aC
  ·exact ⟨Nat.zero_le _,am,aa⟩
  ·rintro ⟨j,X,F,Z,O⟩ ⟨bj,hnx,ab⟩;refine aG fun kh8=>aB 1 rfl<|aD kh8<|aV fun kh9=>aX rfl (fun a2=>?_) (fun a2=>?_)
   ·refine bZ kh9<|aV fun kh10=>aS<|aG fun kh11=>?_
    have hj:j<(eR (l.map (trn back)) v).length:=aA
    obtain ⟨br,bt,rfl,rfl,_⟩:=ad.upd aA
    obtain ⟨i,hi,hri,hsrc⟩:=rowOf_at hj
    have J:i<l.length:=aA
    obtain ⟨u,hu,ap⟩:∃ u:Nat,(trn back l[i]).dst=(u:Int)∧u<n:=⟨(trn back l[i]).dst.toNat,by have:=hg.good i J;cases back<;>simp [trn]<;>omega,by have:=hg.good i J;cases back<;>simp [trn]<;>omega⟩
    have hud:(l.map (trn back))[i].dst.toNat=u:=by rw [n8 _ J,hu];rfl
    have bg:=hr
    obtain ⟨bl,off,rfl,be,hc⟩:=hr (fH cH dO aA J)
    refine f_Q (aM bU rfl rfl (j))<|f_Q (aH Tryz.isAgg3 rfl (rdA (v:= .int .i64 (i:Int)) (d7 (by rw [d9 hj,hri])))) ?_;refine aB 1 rfl<|aD kh11<|aG fun kh12=>aB 2 rfl<|f_Q (dD rfl)<|cN fa81_0 rfl<|cN gM rfl<|c7 Tryz.isAgg22 rfl (rdA rfl)<|aB 1 rfl<|f_Q (aM j7 rfl rfl (off+i*3)) ?_
    refine cN fa69_2 rfl<|f_Q (aH Tryz.isAgg56 rfl (rdS be (by have:=hc (i*3+2) _ (by rw [i1 cH dO l i 2 J aA];rfl);rwa [← Nat.add_assoc] at this))) ?_
    refine f_Q (iH Tryz.runUnderlying56 Tryz.runUnderlying46 rfl _ (iS (by have:=(hg.ok _ (List.getElem_mem J)).wt;omega))) ?_;refine f_S (aW Tryz.call31 rfl (fun w_ U=>i9 a l[i].wt w_ ⟨al,Int.le_of_lt hai⟩ (by have:=(hg.ok _ (List.getElem_mem J)).wt;unfold INF;omega)) ?_);rintro _ _ ⟨rfl,rfl⟩;dsimp only [aK,aJ];refine aB 1 rfl<|aD kh12<|aG fun kh13=>aB 2 rfl ?_
    refine f_S (aW Tryz.call34 rfl (fun w_ U=>far_spec n (some ⟨bl,off,none⟩) l cap back bx bo bd bb i (.pointer (some ⟨bH,0,none⟩)) w_ (fK (b:=bx) U (fun j v hj=>hj)) (bg.up0 U) J hlen) ?_);rintro _ _ ⟨rfl,rfl⟩;rw [hu];dsimp only [aK,aJ];refine aB 1 rfl<|aD kh13<|aG fun kh14=>aB 2 rfl<|f_Q (dD rfl)<|cN oT rfl<|c7 Tryz.isAgg41 rfl (rdA rfl)<|aB 1 rfl<|f_Q (aM j6 rfl rfl (u))<|f_Q (aH Tryz.isAgg46 rfl (rdA (iE (mF (by rw [hnx.ss.ld];exact ap))))) ?_
    refine aB 2 rfl<|eA 59 rfl (fun g59=>?_) (fun g59=>?_)
    ·refine aB 2 rfl ?_;refine k9 rfl rfl rfl rfl rfl (jE [] _ ba rfl rfl Sub.refl (fun w_ U=>(by have h:=ax w_ (fun k hk=>U.same k hk) i J;exact h)) ?_);rintro _ _ ⟨rfl,rfl⟩;dsimp only [aK,aJ];refine aB 1 rfl<|aD kh14<|e8 rfl (fun c63=>?_) (fun c63=>?_)
     ·have ar:=(hnx.ss.rng u ap).2
      have aq:=dadd_lt g59 ar
      obtain ⟨ae,ah⟩:=hnx.relax ag aj hj aA hri hsrc c63 hud (m:=fU a l[i].wt) (by rw [n8 _ J,trn_wt];exact aq) g59
      refine aV fun ak=>cQ [[(bx,blk (gQ n (some ⟨bl,off,none⟩) l.length cap back bo bd bb (.pointer (some ⟨bH,0,none⟩))) 81)]] rfl<|f_T 0 rfl (aR rfl)<|f_T 1 rfl (dD rfl)<|f_T 2 rfl (aT oT rfl)<|f_T 3 rfl (aH Tryz.isAgg41 rfl (rdA rfl))<|f_T 4 rfl (aR rfl)<|f_T 5 rfl (aR rfl)<|f_T 6 rfl (dD rfl)<|f_T 7 rfl (aT fa81_4 rfl) ?_
      refine f_T 8 rfl (aH Tryz.isAgg25 rfl (rdA rfl))<|f_T 9 rfl (aR rfl)<|f_T 10 rfl (aR rfl)<|f_T 11 rfl (aR rfl)<|f_T 12 rfl (aM j6 rfl rfl (u))<|fX 13 rfl (bQ Tryz.sizeOf46 rfl rfl rfl rfl (by rw [iJ,hnx.ss.ld];omega) (eT (X.set u (fU a l[i].wt))) (o5 _ _ _) ⟨aC,?_⟩)
      refine f_T 14 rfl (aM bU rfl rfl (u))<|fX 15 rfl (bQ Tryz.sizeOf3 rfl rfl rfl rfl (by rw [a7,hnx.ss.lb];omega) (a8 (F.set u (i:Int))) (l7 _ _ _) ⟨aC,?_⟩)
      refine cO aU<|bP ak<|aI<|aB 1 rfl<|f_Q (dD rfl)<|cN fa81_5 rfl<|c7 Tryz.isAgg79 rfl (rdA rfl)<|aB 2 rfl ?_
      refine f_S (d5 [O] _ Tryz.call65 rfl (aL Sub.refl) (fun w_ U=>lO Z bH O (u:Int) (fU a l[i].wt) w_ ab U.owns) ?_);rintro _ _ ⟨rfl,az,rfl,an⟩;rw [ah] at an;dsimp only [aK,aJ];refine aY<|dI<|bP kh10<|aI<|f_Q (bF rfl rfl)<|aB 1 rfl<|aY ?_
      refine cV (a6 (j+1,X.set u (fU a l[i].wt),F.set u (i:Int),Z.set u (some (fU a l[i].wt)),az) (by first|omega|(dsimp only;omega)|(simp;omega)) ⟨aA,ae,an⟩ ?_ ?_ ?_)
      ·exact aF
      ·exact aF
      ·exact aC
     ·refine dZ<|dI<|bP kh10<|aI<|f_Q (bF rfl rfl)<|aB 1 rfl<|aY ?_
      refine cV (a6 (j+1,X,F,Z,O) (by first|omega|(dsimp only;omega)|(simp;omega)) ⟨aA,hnx.skip hj aA hri hsrc (fun hp=>by rw [c63] at hp;cases hp),ab⟩ ?_ ?_ ?_)
      ·exact aF
      ·exact aF
      ·exact aC
    ·refine aB 4 rfl<|aD kh14<|h7 rfl<|dZ<|dI<|bP kh10<|aI<|f_Q (bF rfl rfl)<|aB 1 rfl<|aY ?_
     refine cV (a6 (j+1,X,F,Z,O) (by first|omega|(dsimp only;omega)|(simp;omega)) ⟨aA,hnx.skip hj aA hri hsrc (fun _=>by rw [hud,n8 _ J,trn_wt];have:=dadd_le a l[i].wt;omega),ab⟩ ?_ ?_ ?_)
     ·exact aF
     ·exact aF
     ·exact aC
   ·refine cS<|cU<|cU<|eH<|bP kh6<|aG fun kh16=>aB 5 rfl<|aD kh16<|aZ ?_
    exact lA [(jA bx bo bd bb bH n A l.length cap back vs ms.flatten X F O).flatten] Tryz.results33 rfl rfl rfl (Sub.transF (Sub.joinF (m:=rm) (G' :=rG) ai.symm) (Sub.flatF (by unfold jA;repeat (first|exact aP|refine aL ?_|refine bV rfl ?_)))) (.inr ⟨v,a,X,F,Z,_,ht,rfl,rfl,q9 hR ab rfl,au,ay,ao,hnx.done aA,hnx.ta,hnx.le,hnx.dv,al,hai,hnx.ch⟩)
def Chain (e:List Arc):Nat→Nat→List Nat→Prop
 |u,t,[]=>u=t
 |u,t,i::r=>∃ h:i<e.length,e[i].src.toNat=u∧Chain e e[i].dst.toNat t r
def wsum (e:List Arc):List Nat→Int
 |[]=>0
 |i::r=>(e[i]?.map Arc.wt).getD 0+wsum e r
theorem wsum_cons {e:List Arc} {i:Nat} (h:i<e.length) (r:List Nat):wsum e (i::r)=e[i].wt+wsum e r:=by simp [wsum,h]
def heads (e:List Arc) (W:List Nat):List Nat:=W.map (fun i=>(e[i]?.map (fun x=>x.dst.toNat)).getD 0)
theorem heads_cons {e:List Arc} {i:Nat} (h:i<e.length) (r:List Nat):heads e (i::r)=e[i].dst.toNat::heads e r:=by simp [heads,h]
structure Told (e:List Arc) (s t:Nat) (W:List Nat) (x:Int):Prop where
 chain:Chain e s t W
 sum:wsum e W=x
 nd:(heads e W).Nodup
 ns:s∉heads e W
theorem free_len {n:Nat}:∀ {o:List Nat},o.Nodup→(∀ v,v∈o→v<n)→free n o+o.length≤n
 |[],_,_=>by unfold free;simp only [List.length_nil,Nat.add_zero];exact Nat.le_trans List.countP_le_length aO
 |v::o,h,hv=>by
  rw [List.nodup_cons] at h;have a:=free_len h.2 (fun u F=>hv u (List.mem_cons_of_mem _ F))
  have b:=lL (hv v (List.mem_cons_self ..)) h.1
  rw [List.length_cons];omega
structure Back (e:List Arc) (d:List Int) (o:List Nat) (t v:Nat) (W o1 o2:List Nat):Prop where
 ho:o=o1++v::o2
 chain:Chain e v t W
 sum:wsum e W+dg d v=dg d t
 hd:∀ u,u∈heads e W→u∈o1
 nd:(heads e W).Nodup
 len:W.length≤o1.length
theorem Back.start {e:List Arc} {d:List Int} {o:List Nat} {t:Nat} (O:t∈o):∃ J F,Back e d o t t [] J F:=by
 obtain ⟨J,F,h⟩:=List.append_of_mem O
 exact ⟨J,F,h,rfl,by simp [wsum],fun u U=>by simp [heads] at U,by simp [heads],Nat.zero_le _⟩
theorem Back.next {n:Nat} {e:List Arc} {p:Nat→Bool} {s:Nat} {d by_:List Int} {T:List (Option Int)} {o:List Nat} {R:Nat→Prop} (h:SS n e p s d by_ T o R) {t v:Nat} {W O Y:List Nat} (hb:Back e d o t v W O Y) (aa:v≠s):
  ∃ (i:Nat) (hi:i<e.length) (Z F:List Nat),by_[v]? =some (i:Int)∧Back e d o t e[i].src.toNat (i::W) Z F∧F.length<Y.length:=by
 obtain ⟨i,hi,h1,h2,h3,h4,h5⟩:=h.by2 O v Y hb.ho aa
 obtain ⟨a,b,J⟩:=List.append_of_mem h4
 have X:v∉O:=fun hm=>by
  have:=h.nd;rw [hb.ho] at this
  have:=(List.nodup_append.1 this).2.2 v hm v aO
  exact this rfl
 refine ⟨i,hi,O++v::a,b,h1,⟨by rw [hb.ho,J];simp,⟨hi,rfl,by rw [h3];exact hb.chain⟩,by rw [wsum_cons hi];have:=hb.sum;omega,fun u U=>?_,?_,?_⟩,by rw [J];simp;omega⟩
 ·rw [heads_cons hi,h3] at U
  rcases List.mem_cons.1 U with rfl|U
  ·simp
  ·exact List.mem_append_left _ (hb.hd u U)
 ·rw [heads_cons hi,h3,List.nodup_cons]
  exact ⟨fun hm=>X (hb.hd v hm),hb.nd⟩
 ·have:=hb.len;rw [List.length_cons,List.length_append,List.length_cons];omega
theorem Back.told {e:List Arc} {d:List Int} {o:List Nat} {t s:Nat} {W O J:List Nat} (hb:Back e d o t s W O J) (F:o.Nodup) (hz:dg d s=0):Told e s t W (dg d t):=
 ⟨hb.chain,by have:=hb.sum;omega,hb.nd,fun hm=>by
  rw [hb.ho] at F
  exact (List.nodup_append.1 F).2.2 s (hb.hd s hm) s aO rfl⟩
theorem SS.small {n:Nat} {e:List Arc} {p:Nat→Bool} {s:Nat} {d by_:List Int} {T:List (Option Int)} {o:List Nat} {R:Nat→Prop} (h:SS n e p s d by_ T o R) (hw:∀ x∈e,x.wt≤4294967295):
  ∀ (k:Nat) (J:List Nat) (v:Nat) (O:List Nat),O.length=k→o=J++v::O→dg d v≤(k:Int)*4294967295:=by
 intro k
 induction k using Nat.strongRecOn with
 |_ k ih=>
  intro J v O hk ho
  by_cases hs:v=s
  ·subst hs;rw [h.zero];omega
  ·obtain ⟨i,hi,_,_,_,U,X⟩:=h.by2 J v O ho hs
   obtain ⟨a,b,F⟩:=List.append_of_mem U
   have hl:b.length<k:=by rw [F] at hk;simp at hk;omega
   have:=ih b.length hl (J++v::a) e[i].src.toNat b rfl (by rw [ho,F];simp)
   have:=hw _ (List.getElem_mem hi)
   omega
theorem SS.bound {n:Nat} {e:List Arc} {p:Nat→Bool} {s:Nat} {d by_:List Int} {T:List (Option Int)} {o:List Nat} {R:Nat→Prop} (h:SS n e p s d by_ T o R) (hw:∀ x∈e,x.wt≤4294967295) (hn:n≤1024) (X:topR T=none):∀ v,v<n→dg d v<INF→dg d v≤4398046510080:=fun v hv hlt=>by
 have U:T[v]? =some none:=by
  have O:=jY X
  unfold kJ at O
  rw [List.countP_eq_zero] at O;have F:v<T.length:=by rw [h.lt];exact hv
  have:=O _ (List.getElem_mem F)
  rw [List.getElem?_eq_getElem F]
  cases e:T[v] with
  |none=>rfl
  |some x=>rw [e] at this;simp at this
 have hm:=(h.ord v).2 ⟨hv,hlt,U⟩
 obtain ⟨a,b,J⟩:=List.append_of_mem hm
 have hb:=h.small hw b.length a v b rfl J
 have hl:=free_len h.nd (fun v hv=>((h.ord v).1 hv).1)
 rw [J] at hl;simp at hl;omega
theorem GOk.wts {n:Nat} {l:List Arc} (h:GOk n l) (back:Bool):∀ x∈l.map (trn back),x.wt≤4294967295:=fun x hx=>by
 obtain ⟨y,hy,rfl⟩:=List.mem_map.1 hx
 rw [trn_wt];exact (h.ok y hy).wt.2
def fV (N:Int) (l:List Arc) (vs:List Int):Int:=if (cL N l).2≠0 then (cL N l).2 else if vs.any (fun v=>decide (v<0)||decide (N≤v)) then 5 else 0
theorem gok_of {n:Nat} {l:List Arc} (h:(cL (n:Int) l).2=0) (hok:∀ x∈l,eN x):GOk n l:=by
 obtain ⟨h1,h2,h3,F⟩:=cF h
 exact ⟨aA,h3,F,hok⟩
theorem qJ {N:Int} {l:List Arc} {vs:List Int} (h:fV N l vs=0):(cL N l).2=0∧∀ v∈vs,0≤v∧v<N:=by
 unfold fV at h
 split at h
 ·rename_i h1;exact absurd h h1
 ·split at h
  ·simp at h
  ·rename_i h1 h2
   exact ⟨by simpa using h1,by simpa using h2⟩
def DistΦ (F:Int) (n:Nat) (e:List Arc) (p:Nat→Bool) (s:Nat) (u:Value) (own:List Seg):Prop:=
 ∃ v m D,u= .tuple #[v,.int .i64 F]∧own=[m]∧Own 46 1 v D.length (eT D) m∧(F≠0→D=[])∧(F=0→IsD n e p s D∧∀ v,v<n→dg D v<INF→dg D v≤4398046510080)
abbrev mO:Nat→Bool:=fun _=>true
theorem own_dist {bd n:Nat} {d:List Int} (h:d.length=n) (hn:n≤1024):Own 46 1 (.slice (some ⟨bd,0,none⟩) n n) d.length (eT d) [(bd,blk (eT d) 46)]:=by
 subst h;exact Own.mk (by rw [iJ];omega) aA
theorem free_spec (i:Int) (w:World):Meets Tryz.prog 30 [.int .i64 i] w [] (fun u m=>u= .bool true∧m=[]):=by
 refine bG Tryz.func30 rfl Tryz.ntmps30 rfl Owns.nil<|aG fun kh1=>aB 1 rfl<|aD kh1<|aG fun kh2=>aB 1 rfl<|aD kh2<|aZ ?_
 exact bO [] Tryz.results30 rfl aP ⟨rfl,rfl⟩
theorem all_spec (n:Nat) (A:Option Addr) (l:List Arc) (cap:Nat) (back:Bool) (p:Nat→Bool) (s bx bd:Nat) (d by_:List Int) (T:List (Option Int)) (o:List Nat) (m:Seg) (fi:FuncId) (U:List Value) (w:World) (hr:Ro (Fr w [m]) w A (l.flatMap cH)) (hg:GOk n l)
    (hS:SRep n A l cap back bx bd d by_ T m) (ah:SS n (l.map (trn back)) p s d by_ T o (RF (l.map (trn back)) o))
    (am:∀ args w,(callFunc fi args).run Tryz.prog w= .ok (.enter fi args) w)
    (ak:∀ w',(∀ k,Fr w [m] k→w'.heap[k]? =w.heap[k]?)→∀ i,i<l.length→Meets Tryz.prog fi ([.int .i64 (i:Int)]++U) w' [] (fun u m=>u= .bool (p i)∧m=[])) (hw:Owns w [m]):
    Meets Tryz.prog 28 [.pointer (some ⟨bx,0,none⟩),.func (.func fi) #[] U.toArray] w [m] (fun u own' =>∃ O F J o' m',u= .slice (some ⟨bd,0,none⟩) n n∧own' =[m']∧SRep n A l cap back bx bd O F J m'∧SS n (l.map (trn back)) p s O F J o' (RF (l.map (trn back)) o')∧topR J=none):=by
 refine bG Tryz.func28 rfl Tryz.ntmps28 rfl hw<|aG fun kh1=>aB 1 rfl<|aD kh1<|aV fun kh2=>aG fun ae=>aB 1 rfl<|aD ae<|aS ?_
 refine dF (α:=Bool×List Int×List Int×List (Option Int)×List Nat×Seg) [0,1] (fun ⟨b,O,F,J,o',m'⟩=>[(5,.bool b)]) (fun ⟨b,O,F,J,o',m'⟩=>[m']) (fun ⟨b,O,F,J,o',m'⟩=>SRep n A l cap back bx bd O F J m'∧SS n (l.map (trn back)) p s O F J o' (RF (l.map (trn back)) o')∧(b=false→topR J=none)) (fun ⟨b,O,F,J,o',m'⟩=>free n o' +(if b then 1 else 0)) (true,d,by_,T,o,m) ?_ ?_ ?_ ?_
 · exact aF
 · exact aC
 · exact ⟨hS,ah,fun h=>by cases h⟩
 ·
  rintro ⟨b,O,F,J,o',m'⟩ ⟨ad,X,hb⟩;refine aV fun aj=>aG fun kh5=>aB 1 rfl<|aD kh5<|e8 rfl (fun c6=>?_) (fun c6=>?_)
  ·
   refine bZ aj<|aS<|aI<|aB 2 rfl ?_
   refine f_S (d5 [m'] _ Tryz.call33 rfl (aL Sub.refl) (fun w_ Y=>next_spec n A l cap back p s bx bd O F J o' m' fi U w_ (hr.up Y) hg ad X am (fun w' hs i hi=>ak w' (Y.chain hs) i hi) Y.owns) ?_);rintro ap ao hN
   rcases hN with ⟨ab,rfl,m2,rfl,aa⟩|⟨v,a,d2,by2,T2,m2,ht,rfl,rfl,aa,ag,al,an,ac,_⟩
   · dsimp only [aK,aJ]
     refine aB 5 rfl<|aY<|dI ?_
     refine cV (a6 (false,O,F,J,o',m2) (by subst c6;simp) ⟨aa,X,fun _=>ab⟩ ?_ ?_ ?_)
     · exact aF
     · exact aF
     · exact aC
   have ai:=lL ag al
   dsimp only [aK,aJ];refine aB 5 rfl<|aY<|dI ?_
   refine cV (a6 (true,d2,by2,T2,v::o',m2) (by subst c6;simp;omega) ⟨aa,ac,fun h=>by cases h⟩ ?_ ?_ ?_)
   · exact aF
   · exact aF
   · exact aC
  ·
   refine cS<|cU<|cU<|eH<|bP kh2<|aV fun kh6=>?_
   obtain ⟨bo,bb,bH,vs,ms,hm,Z,hR,hH⟩:=ad
   refine eP (Sub.openF Z) ?_
   unfold jA
   dsimp only [aK,aJ];refine aI<|aB 1 rfl<|f_Q (dD rfl)<|cN oT rfl<|c7 Tryz.isAgg41 rfl (rdA rfl)<|aB 1 rfl<|aD kh6<|aZ ?_
   exact bO [m'] Tryz.results28 rfl (Sub.transF (b:=jA bx bo bd bb bH n A l.length cap back vs ms.flatten O F hm) (by unfold jA;repeat (first|exact aP|refine aL ?_|refine bV rfl ?_)) ⟨[],by simpa using Z.symm⟩) ⟨O,F,J,o',m',rfl,rfl,⟨bo,bb,bH,vs,ms,hm,Z,hR,hH⟩,X,hb c6⟩
theorem nrlook_spec (N:Int) (A:Option Addr) (l:List Arc) (cap:Nat) (B:Option Addr) (vs:List Int) (cb:Nat) (w:World) (hr:Ro (Fr w []) w A (l.flatMap cH)) (hk:Ro (Fr w []) w B (a8 vs)) (hl:l.length≤9223372036854775807) (hN:I64 N) (hok:∀ x∈l,eN x) (ac:vs.length≤1000000):
    Meets Tryz.prog 25 [.agg #[.int .i64 N,.slice A l.length cap],.slice B vs.length cb] w [] (fun u m=>u= .int .i64 (fV N l vs)∧m=[]):=by
 refine bG Tryz.func25 rfl Tryz.ntmps25 rfl Owns.nil<|aG fun kh1=>f_S (cZ rfl rfl fun b2=>?_)
 refine aB 1 rfl<|aD kh1<|aV fun kh2=>aG fun kh3=>f_Q (aQ (vs:=[_,_]) Tryz.isAgg24 Tryz.sizeOf24 rfl rfl ⟨(rdA rfl),(rdA rfl),trivial⟩) ?_
 refine f_S (aW Tryz.call20 rfl (fun w_ U=>gF N A l cap w_ (hr.up0 U) hl hN hok) ?_);rintro _ _ ⟨rfl,rfl⟩;dsimp only [aK,aJ];refine aB 5 rfl<|aD kh3<|aG fun kh4=>aB 2 rfl<|aD kh4<|aX rfl (fun c15=>?_) (fun c15=>?_)
 ·refine aG fun Z=>aB 2 rfl<|aD Z<|aZ<|dA ?_
  exact bO [] Tryz.results25 rfl aP ⟨by unfold fV;rw [if_pos (by simpa using c15)],rfl⟩
 ·refine bZ kh2<|aV fun kh6=>aG fun aa=>aB 1 rfl<|dY bU rfl<|aB 1 rfl<|aD aa<|aS ?_
  refine dF (α:=Nat) [2,17,18] (fun k=>[(19,.int .i64 (k:Int))]) (fun k=>[[(b2,blk [.int .i64 N,.slice A l.length cap] 24)]]) (fun k=>k≤vs.length∧∀ j (h:j<vs.length),j<k→(decide (vs[j]<0)||decide (N≤vs[j]))=false) (fun k=>vs.length - k) (0) ?_ ?_ ?_ ?_
  ·exact aF
  ·exact aC
  ·exact ⟨Nat.zero_le _,fun j _ h=>aA⟩
  ·rintro k ⟨ad,J⟩;refine aG fun kh8=>aB 1 rfl<|aD kh8<|aV fun kh9=>aX rfl (fun ab=>?_) (fun ab=>?_)
   ·refine bZ kh9<|aV fun kh10=>aS<|aG fun kh11=>?_
    have F:k<vs.length:=aA
    obtain ⟨bk,ok,rfl,Y,X⟩:=hk (gX F)
    refine f_Q (aM bU rfl rfl (ok+k))<|f_Q (aH Tryz.isAgg3 rfl (eC (enc:=(.int .i64 ·)) Y X F))<|aB 1 rfl<|aD kh11<|aG fun kh12=>aB 3 rfl<|eA 25 rfl (fun g25=>?_) (fun g25=>?_)
    ·refine aB 5 rfl<|aD kh12<|eW rfl<|aG fun kh13=>aB 1 rfl<|aD kh13<|aZ<|fA<|dA<|dA ?_
     refine fA<|dA ?_
     exact bO [] Tryz.results25 rfl aP ⟨by unfold fV;rw [if_neg (by simpa using c15),if_pos (List.any_eq_true.2 ⟨_,List.getElem_mem F,by simp [g25]⟩)],rfl⟩
    ·refine aB 1 rfl<|eI rfl rfl (aT eV rfl)<|eI rfl rfl (aH Tryz.isAgg3 rfl (rdA rfl))<|aB 2 rfl<|aD kh12<|aX rfl (fun c30=>?_) (fun c30=>?_)
     ·refine aG fun O=>aB 1 rfl<|aD O<|aZ<|fA<|dA<|dA<|fA<|dA ?_
      exact bO [] Tryz.results25 rfl aP ⟨by unfold fV;rw [if_neg (by simpa using c15),if_pos (List.any_eq_true.2 ⟨_,List.getElem_mem F,by simp;omega⟩)],rfl⟩
     ·refine dZ<|dI<|bP kh10<|aI<|f_Q (bF rfl rfl)<|aB 1 rfl<|aY ?_
      refine cV (a6 (k+1) (by first|omega|(dsimp only;omega)|(simp;omega)) ⟨aA,false_next (p:=fun v=>decide (v<0)||decide (N≤v)) (l:=vs) (hk:=F) J (by simp;omega)⟩ ?_ ?_ ?_)
      ·exact aF
      ·exact aF
      ·exact aC
   ·refine cS<|cU<|cU<|eH<|bP kh6<|aG fun kh15=>aB 1 rfl<|aD kh15<|aZ ?_
    exact bO [] Tryz.results25 rfl aP ⟨by unfold fV;rw [if_neg (by simpa using c15),if_neg (by
                    have hf:vs.any (fun v=>decide (v<0)||decide (N≤v))=false:=List.any_eq_false.2 fun v hv=>by
                      obtain ⟨j,hj,rfl⟩:=List.mem_iff_getElem.1 hv
                      simpa using J j hj aA
                    rw [hf];decide)],rfl⟩
theorem To_spec (N:Int) (A:Option Addr) (l:List Arc) (cap:Nat) (s:Int) (w:World) (hr:Ro (Fr w []) w A (l.flatMap cH)) (hl:l.length≤9223372036854775807) (hN:I64 N) (hok:∀ x∈l,eN x):
    Meets Tryz.prog 11 [.agg #[.int .i64 N,.slice A l.length cap],.int .i64 s] w [] (DistΦ (fV N l [s]) N.toNat (l.map (trn true)) mO s.toNat):=by
 refine bG Tryz.func11 rfl Tryz.ntmps11 rfl Owns.nil<|aG fun kh1=>f_S (cZ rfl rfl fun b2=>?_)
 refine aB 2 rfl<|aD kh1<|aV fun kh2=>aG fun kh3=>f_Q (aQ (vs:=[_,_]) Tryz.isAgg24 Tryz.sizeOf24 rfl rfl ⟨(rdA rfl),(rdA rfl),trivial⟩)<|aB 1 rfl<|f_S (bX eO aA rfl rfl rfl fun b9=>?_)
 refine f_S (aW Tryz.call25 rfl (fun X F=>nrlook_spec N A l cap (some ⟨b9,0,none⟩) [s] 1 X (hr.up0 F) (fK (b:=b9) F (cs:=a8 [s]) (fun j v hj=>hj)) hl hN hok aO) ?_);rintro _ _ ⟨rfl,rfl⟩;dsimp only [aK,aJ];refine aB 1 rfl<|aD kh3<|aG fun kh4=>aB 2 rfl<|aD kh4<|aX rfl (fun c12=>?_) (fun c12=>?_)
 ·refine aG fun ac=>aB 3 rfl<|aD ac<|aZ<|dA ?_
  exact dB [[]] Tryz.results11 rfl rfl Sub.empty ⟨.slice none 0 0,[],[],rfl,rfl,Own.nil _ _,fun _=>rfl,fun h=>absurd h c12⟩
 ·have hz:fV N l [s]=0:=by simpa using c12
  obtain ⟨aa,hv⟩:=qJ hz
  have ad:=hv s aO
  obtain ⟨n,rfl⟩:∃ n:Nat,N=n:=⟨N.toNat,aA⟩
  obtain ⟨k,rfl⟩:∃ k:Nat,s=k:=⟨s.toNat,aA⟩
  have hg:=gok_of aa hok
  have U:k<n:=aA
  refine bZ kh2<|aG fun kh6=>f_Q (aQ (vs:=[_,_]) Tryz.isAgg24 Tryz.sizeOf24 rfl rfl ⟨(rdA rfl),(rdA rfl),trivial⟩)<|aB 1 rfl ?_
  refine f_S (aW Tryz.call27 rfl (fun X F=>q7 n A l cap true k X (hr.up0 F) hg U) ?_);rintro _ _ ⟨bx,bd,m1,rfl,rfl,ab⟩;dsimp only [aK,aJ];refine f_S (d5 [m1] _ Tryz.call28 rfl (aL Sub.refl) (fun X F=>all_spec n A l cap true mO k bx bd (D0 n k) (B0 n) (T0 n k) [] m1 30 [] X (hr.up F) hg ab (jX U) Tryz.call30 (fun w' _ i _=>free_spec i w') F.owns) ?_);rintro _ _ ⟨d2,by2,T2,o2,m2,rfl,rfl,Z,J,O⟩;dsimp only [aK,aJ];refine aB 2 rfl<|aD kh6<|aZ ?_
  obtain ⟨bo,bb,bH,vs,ms,hm,Y,hR,hH⟩:=Z
  exact dB [[(bd,blk (eT d2) 46)]] Tryz.results11 rfl rfl (Sub.pickF (m:=m2) Y (by unfold jA;dsimp only [aK,aJ];exact aL aP)) ⟨_,_,d2,by rw [hz],rfl,own_dist J.ld hg.n1.2,fun h=>absurd hz h,fun _=>⟨J.done O (hg.src _) (hg.dst _) (hg.wt _),J.bound (hg.wts _) hg.n1.2 O⟩⟩
theorem Sub.flatTwo {segs out1 out2 r:List Seg} (h:Sub segs (out1++(out2++r))):Sub segs (out1.flatten::out2.flatten::r):=by
 obtain ⟨q,h⟩:=h
 exact ⟨q,by simpa using h⟩
theorem Sub.openAt {segs F out:List Seg} {m:Seg} [p:Pick segs m F] (hp:m.Perm out.flatten):Sub segs (out++F):=Sub.pickF hp Sub.refl
theorem D0_dg {n s u:Nat} (hs:s<n) (F:u<n):dg (D0 n s) u=if s=u then 0 else INF:=by
 unfold D0;rw [dg_set (by simpa using hs)];split
 ·rfl
 ·rw [dg_eq (by simpa using F)];simp
def MeetΦ (n:Nat) (A:Option Addr) (l:List Arc) (cap:Nat) (back:Bool) (s t bx Y bY X bb:Nat) (ox:List Nat) (dy yy:List Int) (Ty:List (Option Int)) (oy:List Nat) (u:Value) (own:List Seg):Prop:=
 ∃ (ok:Bool) (a:Int) (U O:List Int) (F:List (Option Int)) (J:List Nat) (mx Z:Seg) (best:Int),u= .tuple #[.int .u64 a,.bool ok]∧own=[mx,Z,[(bb,blk [.int .u64 best] 46)]]∧SRep n A l cap back bx Y U O F mx∧SRep n A l cap (!back) bY X dy yy Ty Z∧
  Both n l mO back s t U O F J dy yy Ty oy best∧(ok=false→topR F=none)∧(ok=true→(∀ (u:Nat) (x:Int),F[u]? =some (some x)→a≤x)∧free n J<free n ox)∧free n J≤free n ox∧0≤a∧a≤INF
theorem row_min {e:List Arc} {dx dy:List Int} {v j i u:Nat} {F:Int} (hj:j<(eR e v).length) (hr:(eR e v)[j]=(i:Int)) (hi:i<e.length) (J:e[i].dst.toNat=u) (h:∀ (i:Nat) (h:i<e.length),(i:Int)∈(eR e v).take j→F≤dg dx e[i].dst.toNat+dg dy e[i].dst.toNat):
  ∀ (k:Nat) (h:k<e.length),(k:Int)∈(eR e v).take (j+1)→min F (fU (dg dx u) (dg dy u))≤dg dx e[k].dst.toNat+dg dy e[k].dst.toNat:=fun k hk hm=>by
 rcases take_next hj hr hm with h' |rfl
 ·exact Int.le_trans (Int.min_le_left _ _) (h k hk h')
 ·rw [J];exact Int.le_trans (Int.min_le_right _ _) (dadd_le _ _)
theorem min_or {n u:Nat} {dx dy:List Int} {best F:Int} (J:u<n) (h:F=best∨∃ u,u<n∧F=fU (dg dx u) (dg dy u)):min F (fU (dg dx u) (dg dy u))=best∨∃ w,w<n∧min F (fU (dg dx u) (dg dy u))=fU (dg dx w) (dg dy w):=by
 rcases Int.le_total F (fU (dg dx u) (dg dy u)) with h' |h'
 ·rw [Int.min_eq_left h'];exact h
 ·rw [Int.min_eq_right h'];exact .inr ⟨u,J,rfl⟩
theorem meet_spec (n:Nat) (A:Option Addr) (l:List Arc) (cap:Nat) (back:Bool) (s t bx F bY J bb:Nat) (dx xx:List Int) (Tx:List (Option Int)) (ox:List Nat) (dy yy:List Int) (Ty:List (Option Int)) (oy:List Nat) (best:Int) (mx my:Seg) (w:World)
    (hr:Ro (Fr w [mx,my,[(bb,blk [.int .u64 best] 46)]]) w A (l.flatMap cH)) (hg:GOk n l) (hB:Both n l mO back s t dx xx Tx ox dy yy Ty oy best) (bc:SRep n A l cap back bx F dx xx Tx mx) (hSy:SRep n A l cap (!back) bY J dy yy Ty my) (hw:Owns w [mx,my,[(bb,blk [.int .u64 best] 46)]]):
    Meets Tryz.prog 32 [.pointer (some ⟨bx,0,none⟩),.pointer (some ⟨bY,0,none⟩),.pointer (some ⟨bb,0,none⟩)] w [mx,my,[(bb,blk [.int .u64 best] 46)]] (MeetΦ n A l cap back s t bx F bY J bb ox dy yy Ty oy):=by
 have bw:=hg.n1
 have hlen:=hg.len
 have bq:(l.map (trn back)).length=l.length:=List.length_map _
 refine bG Tryz.func32 rfl Tryz.ntmps32 rfl hw<|aG fun kh1=>aB 2 rfl<|aD kh1<|aG fun kh2=>aB 1 rfl ?_
 refine f_S (d5 [mx] _ Tryz.call33 rfl (aL Sub.refl) (fun w_ O=>next_spec n A l cap back mO s bx F dx xx Tx ox mx 30 [] w_ (hr.up O) hg bc hB.x Tryz.call30 (fun w' _ i _=>free_spec i w') O.owns) ?_);rintro bu bk hN
 rcases hN with ⟨ao,rfl,mx2,rfl,hSx2⟩|⟨v,a,dx2,xx2,Tx2,mx2,ht,rfl,rfl,hSx2,hvn,aq,bg,hSS2,be,hle,bv,ba,hai,hch⟩
 · dsimp only [aK,aJ]
   refine aB 7 rfl<|aD kh2<|aV fun kh3=>aG fun kh4=>aB 1 rfl<|aD kh4<|h7 rfl<|bZ kh3<|aG fun kh5=>aB 4 rfl ?_
   refine aD kh5<|aZ ?_
   exact dB [mx2,my,[(bb,blk [.int .u64 best] 46)]] Tryz.results32 rfl rfl (by repeat (first|exact aP|refine aL ?_|refine bV rfl ?_)) ⟨false,0,dx,xx,Tx,ox,mx2,my,best,rfl,rfl,hSx2,hSy,hB,fun _=>ao,fun h=>by (cases h),Nat.le_refl _,by decide,by decide⟩
 have bj:=hB.b0
 have bE:=hSS2.ld
 have bB:=hB.y.ld
 dsimp only [aK,aJ];obtain ⟨X,U,ab,ae,av,ag,ar,hRx,hHx⟩:=hSx2
 refine f_subL (Sub.openAt (m:=mx2) ar) ?_
 unfold jA
 dsimp only [aK,aJ];obtain ⟨Y,Z,ac,an,am,ak,au,hRY,hHY⟩:=hSy
 refine f_subL (Sub.openAt (m:=my) au) ?_
 unfold jA
 dsimp only [aK,aJ];refine aB 7 rfl<|aD kh2<|aV fun kh6=>aG fun az=>aB 1 rfl<|aD az<|eW rfl ?_
 refine oU (α:=Unit) [0,1,2,7,8,9] (fun _=>[]) (fun _=>[[(bx,blk (gQ n A l.length cap back X F U (.pointer (some ⟨ab,0,none⟩))) 81)],[(X,blk ae 25)],av.flatten,[(F,blk (eT dx2) 46)],[(U,blk (a8 xx2) 3)],ag,[(bY,blk (gQ n A l.length cap (!back) Y J Z (.pointer (some ⟨ac,0,none⟩))) 81)],[(Y,blk an 25)],am.flatten,[(J,blk (eT dy) 46)],[(Z,blk (a8 yy) 3)],ak,[(bb,blk [.int .u64 (min best (fU (dg dx2 v) (dg dy v)))] 46)]]) (fun _=>True) ?_ ?_
 ·
  intro K8 aw;refine cQ [[(bx,blk (gQ n A l.length cap back X F U (.pointer (some ⟨ab,0,none⟩))) 81)],[(F,blk (eT dx2) 46)],[(bY,blk (gQ n A l.length cap (!back) Y J Z (.pointer (some ⟨ac,0,none⟩))) 81)],[(J,blk (eT dy) 46)]] rfl<|f_T 1 rfl (aR rfl)<|f_T 2 rfl (dD rfl)<|f_T 3 rfl (aT oT rfl)<|f_T 4 rfl (aH Tryz.isAgg41 rfl (rdA rfl))<|f_T 5 rfl (aR rfl)<|f_T 6 rfl (aM j6 rfl rfl (v))<|f_T 7 rfl (aH Tryz.isAgg46 rfl (rdA (iE (mF aA))))<|f_T 8 rfl (aR rfl)<|f_T 9 rfl (dD rfl) ?_
  refine f_T 10 rfl (aT oT rfl)<|f_T 11 rfl (aH Tryz.isAgg41 rfl (rdA rfl))<|f_T 12 rfl (aR rfl)<|f_T 13 rfl (aM j6 rfl rfl (v))<|f_T 14 rfl (aH Tryz.isAgg46 rfl (rdA (iE (mF aA))))<|gD 0 15 rfl rfl aU rfl rfl rfl rfl rfl rfl ?_ ?_
  ·
   refine (aH Tryz.isAgg46 rfl (rdA rfl)).does ⟨aC,?_⟩;refine f_O 15 rfl (aW Tryz.call31 rfl (fun w_ O=>i9 (dg dx2 v) (dg dy v) w_ (hSS2.rng v hvn) (hB.y.rng v hvn)) ?_);rintro _ _ ⟨rfl,rfl⟩;dsimp only [aK,aJ];refine ⟨aC,?_⟩;refine f_T 16 rfl (oH rfl rfl)<|fX 17 rfl (bQ Tryz.sizeOf46 rfl rfl rfl rfl cG _ rfl ⟨aC,?_⟩)
   refine cO aU<|cV (aw _ _ (()) trivial ?_ ?_ ?_)
   · exact aF
   · exact aF
   · exact aC
  ·
   refine (aW Tryz.call31 rfl (fun w_ O=>i9 (dg dx2 v) (dg dy v) w_ (hSS2.rng v hvn) (hB.y.rng v hvn)) ?_);rintro _ _ ⟨rfl,rfl⟩;dsimp only [aK,aJ];refine ⟨aC,?_⟩;refine f_O 0 rfl ((aH Tryz.isAgg46 rfl (rdA rfl)).does ⟨aC,?_⟩);refine f_T 16 rfl (oH rfl rfl)<|fX 17 rfl (bQ Tryz.sizeOf46 rfl rfl rfl rfl cG _ rfl ⟨aC,?_⟩)
   refine cO aU<|cV (aw _ _ (()) trivial ?_ ?_ ?_)
   · exact aF
   · exact aF
   · exact aC
 ·
  rintro _ _;refine aV fun ay=>?_;have a2:=lF n (l.map (trn back))
  obtain ⟨rv,rm,rG,bf,ai,ap,_⟩:=hRx.split (i:=v) aA
  rw [kK] at ai;obtain ⟨Ar,cr,rfl,bi⟩:=ai.val
  refine eP (Sub.splitF ap) ?_;have bC:(eR (l.map (trn back)) v).length≤8192:=by unfold eR;rw [kS];exact Nat.le_trans List.countP_le_length aA
  refine aI<|aB 1 rfl<|f_Q (dD rfl)<|cN fa81_2 rfl<|c7 Tryz.isAgg32 rfl (rdA rfl)<|aB 1 rfl<|f_Q (aM g5 rfl rfl (v))<|f_Q (aH Tryz.isAgg25 rfl (rdA bf))<|dY bU rfl<|aB 1 rfl ?_
  refine aD ay<|aS ?_
  refine dF (α:=Nat×Int) [0,1,2,8,9,43,44] (fun ⟨j,bst⟩=>[(45,.int .i64 (j:Int))]) (fun ⟨j,bst⟩=>[[(bx,blk (gQ n A l.length cap back X F U (.pointer (some ⟨ab,0,none⟩))) 81)],[(X,blk ae 25)],rm,rG,[(F,blk (eT dx2) 46)],[(U,blk (a8 xx2) 3)],ag,[(bY,blk (gQ n A l.length cap (!back) Y J Z (.pointer (some ⟨ac,0,none⟩))) 81)],[(Y,blk an 25)],am.flatten,[(J,blk (eT dy) 46)],[(Z,blk (a8 yy) 3)],ak,[(bb,blk [.int .u64 bst] 46)]]) (fun ⟨j,bst⟩=>j≤(eR (l.map (trn back)) v).length∧bst≤best∧(∀ (i:Nat) (h:i<(l.map (trn back)).length),(i:Int)∈(eR (l.map (trn back)) v).take j→bst≤dg dx2 (l.map (trn back))[i].dst.toNat+dg dy (l.map (trn back))[i].dst.toNat)∧(bst=best∨∃ u,u<n∧bst=fU (dg dx2 u) (dg dy u))) (fun ⟨j,bst⟩=>(eR (l.map (trn back)) v).length - j) (0,min best (fU (dg dx2 v) (dg dy v))) ?_ ?_ ?_ ?_
  · exact aF
  · exact aC
  · exact ⟨Nat.zero_le _,Int.min_le_left _ _,fun i h hm=>by simp at hm,min_or (best:=best) hvn (.inl rfl)⟩
  ·
   rintro ⟨j,bst⟩ ⟨bp,hbb,aj,al⟩;refine fJ (e:=[(45,_),(0,_),(1,_),(2,_),(8,_),(9,_),(43,_),(44,_)]) aF ?_;refine aG fun kh10=>aB 1 rfl<|aD kh10<|aV fun kh11=>aX rfl (fun ax=>?_) (fun ax=>?_)
   ·
    refine bZ kh11<|aV fun kh12=>aS<|aG fun kh13=>?_
    have hj:j<(eR (l.map (trn back)) v).length:=aA
    obtain ⟨br,bt,rfl,rfl,_⟩:=ai.upd aA
    obtain ⟨i,hi,ah,bh⟩:=rowOf_at hj
    have ad:i<l.length:=aA
    obtain ⟨u,hu,aa⟩:∃ u:Nat,(trn back l[i]).dst=(u:Int)∧u<n:=⟨(trn back l[i]).dst.toNat,by have:=hg.good i ad;cases back<;>simp [trn]<;>omega,by have:=hg.good i ad;cases back<;>simp [trn]<;>omega⟩
    have hud:(l.map (trn back))[i].dst.toNat=u:=by rw [n8 _ ad,hu];rfl
    have a1:=hr
    obtain ⟨bl,off,rfl,bD,hc⟩:=hr (fH cH dO aA ad)
    refine f_Q (aM bU rfl rfl (j))<|f_Q (aH Tryz.isAgg3 rfl (rdA (v:= .int .i64 (i:Int)) (d7 (by rw [d9 hj,ah])))) ?_;refine aB 1 rfl<|aD kh13<|aG fun kh14=>aB 2 rfl ?_
    refine f_S (aW Tryz.call34 rfl (fun w_ O=>far_spec n (some ⟨bl,off,none⟩) l cap back bx X F U i (.pointer (some ⟨ab,0,none⟩)) w_ (fK (b:=bx) O (fun j v hj=>hj)) (a1.up0 O) ad hlen) ?_);rintro _ _ ⟨rfl,rfl⟩;rw [hu];dsimp only [aK,aJ];refine aB 1 rfl<|aD kh14<|cQ [[(bx,blk (gQ n (some ⟨bl,off,none⟩) l.length cap back X F U (.pointer (some ⟨ab,0,none⟩))) 81)],[(F,blk (eT dx2) 46)],[(bY,blk (gQ n (some ⟨bl,off,none⟩) l.length cap (!back) Y J Z (.pointer (some ⟨ac,0,none⟩))) 81)],[(J,blk (eT dy) 46)]] rfl<|f_T 1 rfl (aR rfl)<|f_T 2 rfl (dD rfl)<|f_T 3 rfl (aT oT rfl)<|f_T 4 rfl (aH Tryz.isAgg41 rfl (rdA rfl))<|f_T 5 rfl (aR rfl)<|f_T 6 rfl (aM j6 rfl rfl (u))<|f_T 7 rfl (aH Tryz.isAgg46 rfl (rdA (iE (mF aA)))) ?_
    refine f_T 8 rfl (aR rfl)<|f_T 9 rfl (dD rfl)<|f_T 10 rfl (aT oT rfl)<|f_T 11 rfl (aH Tryz.isAgg41 rfl (rdA rfl))<|f_T 12 rfl (aR rfl)<|f_T 13 rfl (aM j6 rfl rfl (u))<|f_T 14 rfl (aH Tryz.isAgg46 rfl (rdA (iE (mF aA))))<|gD 0 15 rfl rfl aU rfl rfl rfl rfl rfl rfl ?_ ?_
    ·
     refine (aH Tryz.isAgg46 rfl (rdA rfl)).does ⟨aC,?_⟩;refine f_O 15 rfl (aW Tryz.call31 rfl (fun w_ O=>i9 (dg dx2 u) (dg dy u) w_ (hSS2.rng u aa) (hB.y.rng u aa)) ?_);rintro _ _ ⟨rfl,rfl⟩;dsimp only [aK,aJ];refine ⟨aC,?_⟩;refine f_T 16 rfl (oH rfl rfl)<|fX 17 rfl (bQ Tryz.sizeOf46 rfl rfl rfl rfl cG _ rfl ⟨aC,?_⟩)
     refine cO aU<|dI<|bP kh12<|aI<|f_Q (bF rfl rfl)<|aB 1 rfl<|aY ?_
     refine cV (a6 (j+1,min bst (fU (dg dx2 u) (dg dy u))) (by first|omega|(dsimp only;omega)|(simp;omega)) ⟨aA,Int.le_trans (Int.min_le_left _ _) hbb,row_min hj ah hi hud aj,min_or aa al⟩ ?_ ?_ ?_)
     · exact aF
     · exact aF
     · exact aC
    ·
     refine (aW Tryz.call31 rfl (fun w_ O=>i9 (dg dx2 u) (dg dy u) w_ (hSS2.rng u aa) (hB.y.rng u aa)) ?_);rintro _ _ ⟨rfl,rfl⟩;dsimp only [aK,aJ];refine ⟨aC,?_⟩;refine f_O 0 rfl ((aH Tryz.isAgg46 rfl (rdA rfl)).does ⟨aC,?_⟩);refine f_T 16 rfl (oH rfl rfl)<|fX 17 rfl (bQ Tryz.sizeOf46 rfl rfl rfl rfl cG _ rfl ⟨aC,?_⟩)
     refine cO aU<|dI<|bP kh12<|aI<|f_Q (bF rfl rfl)<|aB 1 rfl<|aY ?_
     refine cV (a6 (j+1,min bst (fU (dg dx2 u) (dg dy u))) (by first|omega|(dsimp only;omega)|(simp;omega)) ⟨aA,Int.le_trans (Int.min_le_left _ _) hbb,row_min hj ah hi hud aj,min_or aa al⟩ ?_ ?_ ?_)
     · exact aF
     · exact aF
     · exact aC
   ·
    refine cS<|cU<|cU<|eH<|bP kh6<|aG fun kh15=>aB 4 rfl<|aD kh15<|aZ ?_
    exact dB [(jA bx X F U ab n A l.length cap back ae av.flatten dx2 xx2 ag).flatten,(jA bY Y J Z ac n A l.length cap (!back) an am.flatten dy yy ak).flatten,[(bb,blk [.int .u64 bst] 46)]] Tryz.results32 rfl rfl (Sub.transF (Sub.joinF (m:=rm) (G' :=rG) ap.symm) (Sub.flatTwo (by unfold jA;dsimp only [aK,aJ];repeat (first|exact aP|refine aL ?_|refine bV rfl ?_)))) ⟨true,a,dx2,xx2,Tx2,v::ox,_,_,bst,rfl,rfl,q9 hRx hHx rfl,q9 hRY hHY rfl,hB.step hvn hSS2 hle hch hbb (fun i h e=>aj i h (by rw [List.take_of_length_le aA,← e];exact rowOf_mem h)) al,fun h=>by (cases h),fun _=>⟨be,lL hvn aq⟩,Nat.le_of_lt (lL hvn aq),ba,Int.le_of_lt hai⟩
def BtwΦ (N:Int) (l:List Arc) (s t:Int) (u:Value) (own:List Seg):Prop:=
 ∃ x,u= .tuple #[.int .u64 x,.int .i64 (fV N l [s,t])]∧own=[]∧(fV N l [s,t]≠0→x=0)∧(fV N l [s,t]=0→0≤x∧IsB (l.map (trn false)) mO s.toNat t.toNat x)
theorem Between_spec (N:Int) (A:Option Addr) (l:List Arc) (cap:Nat) (s t:Int) (w:World) (hr:Ro (Fr w []) w A (l.flatMap cH)) (hl:l.length≤9223372036854775807) (hN:I64 N) (hok:∀ x∈l,eN x):
    Meets Tryz.prog 12 [.agg #[.int .i64 N,.slice A l.length cap],.int .i64 s,.int .i64 t] w [] (BtwΦ N l s t):=by
 refine bG Tryz.func12 rfl Tryz.ntmps12 rfl Owns.nil<|aG fun kh1=>f_S (cZ rfl rfl fun b3=>?_)
 refine aB 2 rfl<|aD kh1<|aV fun kh2=>aG fun kh3=>f_Q (aQ (vs:=[_,_]) Tryz.isAgg24 Tryz.sizeOf24 rfl rfl ⟨(rdA rfl),(rdA rfl),trivial⟩)<|aB 2 rfl<|f_S (o_sliceN (len:=2) eO aA rfl rfl fun bj=>?_)
 refine f_S (aW Tryz.call25 rfl (fun w_ J=>nrlook_spec N A l cap (some ⟨bj,0,none⟩) [s,t] 2 w_ (hr.up0 J) (fK (b:=bj) J (cs:=a8 [s,t]) (fun j v hj=>hj)) hl hN hok aO) ?_);rintro _ _ ⟨rfl,rfl⟩;dsimp only [aK,aJ];refine aB 1 rfl<|aD kh3<|aG fun kh4=>aB 2 rfl<|aD kh4<|aX rfl (fun c23=>?_) (fun c23=>?_)
 ·refine aG fun bv=>aB 3 rfl<|aD bv<|aZ<|dA ?_
  exact dB [] Tryz.results12 rfl rfl aP ⟨0,rfl,rfl,fun _=>rfl,fun h=>absurd h c23⟩
 ·have hz:fV N l [s,t]=0:=by simpa using c23
  obtain ⟨b8,hv⟩:=qJ hz
  have cg:=hv s aO
  have cm:=hv t aO
  obtain ⟨n,rfl⟩:∃ n:Nat,N=n:=⟨N.toNat,aA⟩
  obtain ⟨O,rfl⟩:∃ k:Nat,s=k:=⟨s.toNat,aA⟩
  obtain ⟨U,rfl⟩:∃ k:Nat,t=k:=⟨t.toNat,aA⟩
  have hg:=gok_of b8 hok
  have Z:O<n:=aA
  have X:U<n:=aA
  have ck:=hg.n1
  have az:∀ k,(D0 n k).length=n:=fun k=>by simp [D0]
  have bW:=jX (e:=l.map (trn false)) (p:=mO) Z
  have b4:=jX (e:=l.map (trn true)) (p:=mO) X
  have cd:=Both.start (back:=false) Z X bW b4 (fun u hu=>D0_dg Z hu) (fun u hu=>D0_dg X hu)
  refine bZ kh2<|aV fun kh6=>cQ [[(b3,blk [.int .i64 (n:Int),.slice A l.length cap] 24)]] rfl<|f_T 0 rfl (aQ (vs:=[_,_]) Tryz.isAgg24 Tryz.sizeOf24 rfl rfl ⟨(rdA rfl),(rdA rfl),trivial⟩)<|f_T 1 rfl (aR rfl)<|f_T 3 rfl (aQ (vs:=[_,_]) Tryz.isAgg24 Tryz.sizeOf24 rfl rfl ⟨(rdA rfl),(rdA rfl),trivial⟩)<|f_T 4 rfl (aR rfl) ?_
  refine f_O 2 rfl (aW Tryz.call27 rfl (fun w_ J=>q7 n A l cap false O w_ (hr.up0 J) hg Z) ?_);rintro _ _ ⟨bx,aa,bL,rfl,rfl,bt⟩;dsimp only [aK,aJ];refine ⟨aC,?_⟩;refine f_O 5 rfl (aW Tryz.call27 rfl (fun w_ J=>q7 n A l cap true U w_ (hr.up0 J) hg X) ?_);rintro _ _ ⟨bY,ab,bw,rfl,rfl,ay⟩;dsimp only [aK,aJ];refine ⟨aC,?_⟩;refine f_O 6 rfl ((bI rfl).does ⟨aC,?_⟩);refine f_O 7 rfl ((bI rfl).does ⟨aC,?_⟩);obtain ⟨ae,ad,aj,al,ap,am,au,bC,bK⟩:=bt
  refine f_subH (Sub.openAt (m:=bL) au) ?_
  unfold jA
  dsimp only [aK,aJ];obtain ⟨ah,ai,ak,aq,ao,an,br,b5,bB⟩:=ay
  refine f_subH (Sub.openAt (m:=bw) br) ?_
  unfold jA
  dsimp only [aK,aJ];refine cO aU<|bP kh6 ?_
  refine oU (α:=Nat) [9,10] (fun F=>[(11,.pointer (some ⟨F,0,none⟩))]) (fun F=>[[(F,blk [.int .u64 (fU (dg (D0 n O) U) (dg (D0 n U) O))] 46)],[(bx,blk (gQ n A l.length cap false ae aa ad (.pointer (some ⟨aj,0,none⟩))) 81)],[(ae,blk al 25)],ap.flatten,[(aa,blk (eT (D0 n O)) 46)],[(ad,blk (a8 (B0 n)) 3)],am,[(bY,blk (gQ n A l.length cap true ah ab ai (.pointer (some ⟨ak,0,none⟩))) 81)],[(ah,blk aq 25)],ao.flatten,[(ab,blk (eT (D0 n U)) 46)],[(ai,blk (a8 (B0 n)) 3)],an]) (fun F=>True) ?_ ?_
  ·intro K7 bc;refine cQ [[(bx,blk (gQ n A l.length cap false ae aa ad (.pointer (some ⟨aj,0,none⟩))) 81)],[(aa,blk (eT (D0 n O)) 46)],[(bY,blk (gQ n A l.length cap true ah ab ai (.pointer (some ⟨ak,0,none⟩))) 81)],[(ab,blk (eT (D0 n U)) 46)]] rfl<|f_T 0 rfl (aR rfl)<|f_T 1 rfl (dD rfl)<|f_T 2 rfl (aT oT rfl)<|f_T 3 rfl (aH Tryz.isAgg41 rfl (rdA rfl))<|f_T 4 rfl (aR rfl)<|f_T 5 rfl (aM j6 rfl rfl (U))<|f_T 6 rfl (aH Tryz.isAgg46 rfl (rdA (iE (mF (by rw [az];exact X))))) ?_
   refine f_T 7 rfl (aR rfl)<|f_T 8 rfl (dD rfl)<|f_T 9 rfl (aT oT rfl)<|f_T 10 rfl (aH Tryz.isAgg41 rfl (rdA rfl))<|f_T 11 rfl (aR rfl)<|f_T 12 rfl (aM j6 rfl rfl (O))<|f_T 13 rfl (aH Tryz.isAgg46 rfl (rdA (iE (mF (by rw [az];exact Z))))) ?_
   refine gD 14 15 rfl rfl aU rfl rfl rfl rfl rfl rfl ?_ ?_
   ·refine (aW Tryz.call31 rfl (fun w_ J=>i9 (dg (D0 n O) U) (dg (D0 n U) O) w_ ((jX (e:=l.map (trn false)) (p:=mO) Z).rng U X) ((jX (e:=l.map (trn true)) (p:=mO) X).rng O Z)) ?_);rintro _ _ ⟨rfl,rfl⟩;dsimp only [aK,aJ];refine ⟨aC,?_⟩;refine f_O 15 rfl (cX Tryz.zeroValue46 rfl fun F=>⟨aC,?_⟩);refine fX 16 rfl (bQ Tryz.sizeOf46 rfl rfl rfl rfl cG _ rfl ⟨aC,?_⟩);refine cO aU<|cV (bc _ _ (F) trivial ?_ ?_ ?_)
    ·exact aF
    ·exact aF
    ·exact aC
   ·refine (cX Tryz.zeroValue46 rfl fun F=>⟨aC,?_⟩);refine f_O 14 rfl (aW Tryz.call31 rfl (fun w_ J=>i9 (dg (D0 n O) U) (dg (D0 n U) O) w_ ((jX (e:=l.map (trn false)) (p:=mO) Z).rng U X) ((jX (e:=l.map (trn true)) (p:=mO) X).rng O Z)) ?_);rintro _ _ ⟨rfl,rfl⟩;dsimp only [aK,aJ];refine ⟨aC,?_⟩;refine fX 16 rfl (bQ Tryz.sizeOf46 rfl rfl rfl rfl cG _ rfl ⟨aC,?_⟩);refine cO aU<|cV (bc _ _ (F) trivial ?_ ?_ ?_)
    ·exact aF
    ·exact aF
    ·exact aC
  ·rintro F _;refine aV fun b9=>eP (out:=[(jA bx ae aa ad aj n A l.length cap false al ap.flatten (D0 n O) (B0 n) am).flatten,(jA bY ah ab ai ak n A l.length cap true aq ao.flatten (D0 n U) (B0 n) an).flatten,[(F,blk [.int .u64 (fU (dg (D0 n O) U) (dg (D0 n U) O))] 46)]]) (Sub.flatTwo (by unfold jA;dsimp only [aK,aJ];repeat (first|exact aP|refine aL ?_|refine bV rfl ?_))) ?_;refine aI<|f_Q (mH rfl rfl)<|aB 1 rfl<|aD b9<|aS ?_
   refine dF (α:=List Int×List Int×List (Option Int)×List Nat×List Int×List Int×List (Option Int)×List Nat×Int×Seg×Seg) [9,10,11,12] (fun ⟨dx,xx,Tx,ox,dy,yy,Ty,oy,best,mx,my⟩=>[]) (fun ⟨dx,xx,Tx,ox,dy,yy,Ty,oy,best,mx,my⟩=>[mx,my,[(F,blk [.int .u64 best] 46)]]) (fun ⟨dx,xx,Tx,ox,dy,yy,Ty,oy,best,mx,my⟩=>Both n l mO false O U dx xx Tx ox dy yy Ty oy best∧SRep n A l cap false bx aa dx xx Tx mx∧SRep n A l cap true bY ab dy yy Ty my) (fun ⟨dx,xx,Tx,ox,dy,yy,Ty,oy,best,mx,my⟩=>free n ox+free n oy) (D0 n O,B0 n,T0 n O,[],D0 n U,B0 n,T0 n U,[],fU (dg (D0 n O) U) (dg (D0 n U) O),(jA bx ae aa ad aj n A l.length cap false al ap.flatten (D0 n O) (B0 n) am).flatten,(jA bY ah ab ai ak n A l.length cap true aq ao.flatten (D0 n U) (B0 n) an).flatten) ?_ ?_ ?_ ?_
   ·exact aF
   ·exact aC
   ·exact ⟨cd,q9 bC bK rfl,q9 b5 bB rfl⟩
   ·rintro ⟨dx,xx,Tx,ox,dy,yy,Ty,oy,best,mx,my⟩ ⟨hB,b2,b7⟩;refine fJ (e:=[(9,_),(10,_),(11,_),(12,_)]) aF ?_;refine aS<|aG fun kh9=>aB 3 rfl ?_
    refine f_S (jE [mx,my,[(F,blk [.int .u64 best] 46)]] _ Tryz.call32 rfl rfl (aL (aL (aL Sub.refl))) (fun w_ J=>meet_spec n A l cap false O U bx aa bY ab F dx xx Tx ox dy yy Ty oy best mx my w_ (hr.up J) hg hB b2 b7 J.owns) ?_);rintro _ _ ⟨ok,a,bk,bi,av,bf,ar,aw,ag,rfl,rfl,ax,bh,a2,b1,ba,cj,a1⟩;dsimp only [aK,aJ];refine aB 5 rfl<|aD kh9<|aG fun kh10=>aB 3 rfl ?_
    refine f_S (jE [aw,ar,[(F,blk [.int .u64 ag] 46)]] _ Tryz.call32 rfl rfl (aL (aL (aL Sub.refl))) (fun w_ J=>meet_spec n A l cap true U O bY ab bx aa F dy yy Ty oy bk bi av bf ag aw ar w_ (hr.up J) hg a2.swap bh ax J.owns) ?_);rintro _ _ ⟨is,b,b6,bE,bD,ce,bu,bM,Y,rfl,rfl,bq,bg,ac,bR,cf,ci,be⟩;dsimp only [aK,aJ];refine aB 5 rfl<|aD kh10<|aV fun kh11=>cQ [[(F,blk [.int .u64 Y] 46)]] rfl<|f_T 0 rfl (aR rfl)<|f_T 1 rfl (o_not rfl)<|f_T 2 rfl (aR rfl)<|f_splitHB 63 rfl (fun g63=>?_) (fun g63=>?_)
    ·refine dE 3 rfl aU rfl rfl rfl rfl rfl rfl aC<|dE 4 rfl aU rfl rfl rfl rfl rfl rfl aC<|f_T 5 rfl (lQ rfl rfl)<|f_T 6 rfl (aR rfl)<|dE 7 rfl aU rfl rfl rfl rfl rfl rfl aC<|dE 8 rfl aU rfl rfl rfl rfl rfl rfl aC<|dE 9 rfl aU rfl rfl rfl rfl rfl rfl aC<|dE 10 rfl aU rfl rfl rfl rfl rfl rfl aC<|dE 11 rfl aU rfl rfl rfl rfl rfl rfl aC<|f_T 12 rfl (lQ rfl rfl) ?_
     refine cO aU<|bP kh11<|eW rfl<|aG fun kh12=>c7 Tryz.isAgg46 rfl (rdA rfl)<|aB 2 rfl<|aD kh12<|aZ<|fA<|dA ?_
     refine fA ?_;have hD:=a2.x.done (b1 (by simpa using g63)) (hg.src _) (hg.dst _) (hg.wt _)
     exact dB [] Tryz.results12 rfl rfl aP ⟨Y,by rw [hz],rfl,fun h=>absurd hz h,fun _=>⟨ac.b0.1,ac.swap.over X hD⟩⟩
    ·refine iA 3 rfl rfl rfl (aR rfl)<|iA 4 rfl rfl rfl (o_not rfl)<|f_T 5 rfl (oG rfl rfl)<|f_T 6 rfl (aR rfl)<|f_splitHB 67 rfl (fun g67=>?_) (fun g67=>?_)
     ·refine dE 7 rfl aU rfl rfl rfl rfl rfl rfl aC<|dE 8 rfl aU rfl rfl rfl rfl rfl rfl aC<|dE 9 rfl aU rfl rfl rfl rfl rfl rfl aC<|dE 10 rfl aU rfl rfl rfl rfl rfl rfl aC<|dE 11 rfl aU rfl rfl rfl rfl rfl rfl aC<|f_T 12 rfl (lQ rfl rfl)<|cO aU<|bP kh11<|eW rfl<|aG fun kh13=>?_
      refine c7 Tryz.isAgg46 rfl (rdA rfl)<|aB 2 rfl<|aD kh13<|aZ<|fA<|dA<|fA ?_
      have hD:=ac.x.done (bR (by simpa using g67)) (hg.src _) (hg.dst _) (hg.wt _)
      exact dB [] Tryz.results12 rfl rfl aP ⟨Y,by rw [hz],rfl,fun h=>absurd hz h,fun _=>⟨ac.b0.1,(ac.over Z hD).turn⟩⟩
     ·refine iA 7 rfl rfl rfl (aR rfl)<|iA 8 rfl rfl rfl (aR rfl)<|iA 10 rfl rfl rfl (aH Tryz.isAgg46 rfl (rdA rfl)) ?_
      refine f_onlyY 9 rfl aU rfl rfl rfl rfl rfl (aW Tryz.call31 rfl (fun w_ J=>i9 a b w_ a1 be) ?_);rintro _ _ ⟨rfl,rfl⟩;dsimp only [aK,aJ];refine ⟨aC,?_⟩;refine iA 11 rfl rfl rfl (o_geq rfl rfl)<|f_T 12 rfl (oG rfl rfl)<|cO aU<|bP kh11<|aX rfl (fun c73=>?_) (fun c73=>?_)
      ·refine aG fun bp=>c7 Tryz.isAgg46 rfl (rdA rfl)<|aB 2 rfl<|aD bp<|aZ<|fA<|dA<|fA ?_
       exact dB [] Tryz.results12 rfl rfl aP ⟨Y,by rw [hz],rfl,fun h=>absurd hz h,fun _=>⟨ac.b0.1,ac.swap.stop (fun b=>hg.dst b) (fun b=>hg.wt b) Z X a1.2 be.2 (ba (by simpa using g63)).1 (cf (by simpa using g67)).1 c73⟩⟩
      ·refine dZ<|dI ?_
       refine cV (a6 (bk,bi,av,bf,b6,bE,bD,ce,Y,bM,bu) (by have:=(ba (by simpa using g63)).2;dsimp only;omega) ⟨ac.swap,bg,bq⟩ ?_ ?_ ?_)
       ·exact aF
       ·exact aF
       ·exact aC

def wA:List Arc:=[⟨0,1,5⟩,⟨1,2,7⟩,⟨0,2,20⟩]
theorem w0:fV 3 wA [0]=0:=by decide
theorem IsD.arc {n:Nat} {e:List Arc} {p:Nat→Bool} {s:Nat} {d:List Int} (h:IsD n e p s d) {i:Nat} (hi:i<e.length) (hp:p i=true) (hd:e[i].dst.toNat<n):dg d e[i].dst.toNat≤fU (dg d e[i].src.toNat) e[i].wt:=by
 have h2:=h.arcs i hi hp
 have:=(h.rng _ hd).2
 unfold fU;split<;>omega
def over (D Y:List Int) (u:Nat) (w:Int) (v:Nat):Int:=if dg D u<INF∧dg Y v<INF then dg D u+w+dg Y v else INF
theorem Wk.more {e:List Arc} {a:Arc} {s v:Nat} {m:Int} (h:Wk e (fun _=>true) s v m):Wk (e++[a]) (fun _=>true) s v m:=by
 induction h with
 |nil=>exact .nil
 | @step n i hi hp _ ih=>
  have hi' :i<(e++[a]).length:=by simp;omega
  have eq:(e++[a])[i]=e[i]:=List.getElem_append_left hi
  have:=Wk.step (p:=fun _=>true) hi' rfl (by rw [eq];exact ih)
  rwa [eq] at this


theorem heldIn {S:Nat→Prop} {w0 w w' :World} {own fr:List Seg} {b:Nat} {cs:List Value} {T:TypeId} {f:Seg→List Seg} [h:At fr b (blk cs T) f] (hp:Hp S w0 (own++fr).flatten w) (hs:∀ k,Fr w own k→w'.heap[k]? =w.heap[k]?):Ro (Fr w' []) w' (some ⟨b,0,none⟩) cs:=fun J=>by
 rw [List.flatten_append] at hp;have F:(b,blk cs T)∈fr.flatten:=h.mem
 have hb:=hp.own b _ (List.mem_append_right _ F)
 have hn:b∉own.flatten.map (·.1):=fun hm=>by
  have:=hp.nodup
  rw [List.map_append] at this;exact (List.nodup_append.1 this).2.2 b hm b (List.mem_map.2 ⟨_,F,rfl⟩) rfl
 have e:=hs b ⟨hp.key_lt (List.mem_append_right _ F),hn⟩
 rw [hb] at e;exact ⟨b,0,rfl,⟨(Array.getElem?_eq_some_iff.1 e).1,aO⟩,fun k v hk=>by simp [World.cell?,e];simpa using hk⟩
theorem ro_keep {S:Nat→Prop} {w0 w' :World} {A:Option Addr} {cs:List Value} (h:Ro S w0 A cs) (hlt:∀ b,S b→b<w0.heap.size) (hs:∀ k,S k→w'.heap[k]? =w0.heap[k]?):Ro (Fr w' []) w' A cs:=fun F=>by
 obtain ⟨b,off,rfl,J,hc⟩:=h F
 have e:=hs b J
 rw [Array.getElem?_eq_getElem (hlt b J)] at e;exact ⟨b,off,rfl,⟨(Array.getElem?_eq_some_iff.1 e).1,aO⟩,hc.same (hs b J)⟩
def pW (l:List Arc) (F:List Bool) (i:Nat):Bool:=(l[i]?.map (fun x=>F.getD x.dst.toNat false)).getD false
theorem pW_eq {l:List Arc} {F:List Bool} {i:Nat} (h:i<l.length) (h' :l[i].dst.toNat<F.length):pW l F i=F[l[i].dst.toNat]:=by
 simp [pW,h,List.getD_eq_getElem?_getD,h']
def oY (N:Int) (l:List Arc) (s:Int) (len:Nat):Int:=if fV N l [s]≠0 then fV N l [s] else if (len:Int)≠N then 4 else 0
theorem Wk.sub {e:List Arc} {p q:Nat→Bool} (h:∀ i,p i=true→q i=true) {s v:Nat} {m:Int} (hw:Wk e p s v m):Wk e q s v m:=by
 induction hw with
 |nil=>exact .nil
 | @step m i hi hp _ ih=>exact .step hi (h _ hp) ih
theorem Win1_spec (n:Nat) (A B:Option Addr) (l:List Arc) (F:List Bool) (cap cb Y Z i:Nat) (w:World) (h1:Ro (Fr w []) w (some ⟨Y,0,none⟩) [.slice B F.length cb]) (h2:Ro (Fr w []) w (some ⟨Z,0,none⟩) [.int .i64 (n:Int),.slice A l.length cap])
    (hr:Ro (Fr w []) w A (l.flatMap cH)) (hb:Ro (Fr w []) w B (F.map .bool)) (hi:i<l.length) (hg:GOk n l) (ae:F.length=n):
    Meets Tryz.prog 29 ([.int .i64 (i:Int)]++[.pointer (some ⟨Y,0,none⟩),.pointer (some ⟨Z,0,none⟩)]) w [] (fun u m=>u= .bool (pW l F i)∧m=[]):=by
 have hlen:=hg.len
 have ad:=hg.good i hi
 have J:l[i].dst.toNat<F.length:=aA
 obtain ⟨b',o',e',O,ab⟩:=h1 aO
 obtain ⟨rfl,rfl⟩:Y=b'∧0=o' :=by cases e';exact ⟨rfl,rfl⟩
 obtain ⟨b',o',e',ac,U⟩:=h2 aO
 obtain ⟨rfl,rfl⟩:Z=b'∧0=o' :=by cases e';exact ⟨rfl,rfl⟩
 obtain ⟨bl,off,rfl,hS,hc⟩:=hr (fH cH dO aA hi)
 obtain ⟨bi,oi,rfl,aa,X⟩:=hb (gX J)
 refine bG Tryz.func29 rfl Tryz.ntmps29 rfl Owns.nil<|aG fun kh1=>aB 1 rfl<|aD kh1<|aV fun kh2=>gG 9 rfl aU<|dG (aH Tryz.isAgg37 rfl (rdS O (ab 0 _ rfl)))<|dG (aT gM rfl)<|dG (aH Tryz.isAgg22 rfl (rdS ac (U 1 _ rfl)))<|dN 1 rfl ?_
 refine dG (aM j7 rfl rfl (off+i*3))<|dG (aT fT rfl)<|dG (aH Tryz.isAgg3 rfl (rdS hS (by have:=hc (i*3+1) _ (by rw [i1 cH dO l i 1 hi aA];rfl);rwa [← Nat.add_assoc] at this))) ?_;refine dG (aM n4 rfl rfl (oi+l[i].dst.toNat))<|dG (aH Tryz.isAgg4 rfl (eC (enc:= .bool) aa X J))<|eK (i3 ?_)
 refine aB 1 rfl<|aD kh2<|aZ ?_
 exact bO [] Tryz.results29 rfl aP ⟨by rw [pW_eq hi J],rfl⟩
def WinΦ (N:Int) (l:List Arc) (s:Int) (F:List Bool) (u:Value) (own:List Seg):Prop:=
 ∃ v m D,u= .tuple #[v,.int .i64 (oY N l s F.length)]∧own=[m]∧Own 46 1 v D.length (eT D) m∧(oY N l s F.length≠0→D=[])∧
  (oY N l s F.length=0→if F.getD s.toNat false=true then IsD N.toNat (l.map (trn false)) (pW l F) s.toNat D∧∀ v,v<N.toNat→dg D v<INF→dg D v≤4398046510080 else D=List.replicate N.toNat INF)
theorem WithinB_spec (N:Int) (A:Option Addr) (l:List Arc) (cap:Nat) (s:Int) (B:Option Addr) (J:List Bool) (cb:Nat) (w:World) (hr:Ro (Fr w []) w A (l.flatMap cH)) (hb:Ro (Fr w []) w B (J.map .bool)) (hl:l.length≤9223372036854775807) (hN:I64 N) (hok:∀ x∈l,eN x):
    Meets Tryz.prog 10 [.agg #[.int .i64 N,.slice A l.length cap],.int .i64 s,.slice B J.length cb] w [] (WinΦ N l s J):=by
 refine bG Tryz.func10 rfl Tryz.ntmps10 rfl Owns.nil<|aG fun kh1=>f_S (cZ rfl rfl fun b3=>?_)
 refine f_S (cZ rfl rfl fun b5=>?_);refine aB 2 rfl<|aD kh1<|aV fun kh2=>aG fun kh3=>f_Q (aQ (vs:=[_,_]) Tryz.isAgg24 Tryz.sizeOf24 rfl rfl ⟨(rdA rfl),(rdA rfl),trivial⟩)<|aB 1 rfl<|f_S (bX eO aA rfl rfl rfl fun b11=>?_)
 refine f_S (aW Tryz.call25 rfl (fun Z F=>nrlook_spec N A l cap (some ⟨b11,0,none⟩) [s] 1 Z (hr.up0 F) (fK (b:=b11) F (cs:=a8 [s]) (fun j v hj=>hj)) hl hN hok aO) ?_);rintro _ _ ⟨rfl,rfl⟩;dsimp only [aK,aJ];refine aB 1 rfl<|aD kh3<|aG fun kh4=>aB 2 rfl<|aD kh4<|aX rfl (fun c14=>?_) (fun c14=>?_)
 ·refine aG fun an=>aB 3 rfl<|aD an<|aZ<|dA ?_
  have O:oY N l s J.length=fV N l [s]:=by unfold oY;rw [if_pos c14]
  exact dB [[]] Tryz.results10 rfl rfl Sub.empty ⟨.slice none 0 0,[],[],by rw [O],rfl,Own.nil _ _,fun _=>rfl,fun h=>by rw [O] at h;exact absurd h (c14)⟩
 ·have hz:fV N l [s]=0:=by simpa using c14
  obtain ⟨al,hv⟩:=qJ hz
  have aq:=hv s aO
  obtain ⟨n,rfl⟩:∃ n:Nat,N=n:=⟨N.toNat,aA⟩
  obtain ⟨k,rfl⟩:∃ k:Nat,s=k:=⟨s.toNat,aA⟩
  have hg:=gok_of al hok
  have ad:k<n:=aA
  have ar:=hg.n1
  have hlen:=hg.len
  refine bZ kh2<|aV fun kh6=>aG fun kh7=>c7 Tryz.isAgg37 rfl (rdA rfl)<|dY n4 rfl<|cN eV rfl<|c7 Tryz.isAgg3 rfl (rdA rfl)<|aB 1 rfl<|aD kh7<|aX rfl (fun c20=>?_) (fun c20=>?_)
  ·refine aG fun am=>aB 2 rfl<|aD am<|aZ<|dA ?_
   have O:oY (n:Int) l (k:Int) J.length=4:=by unfold oY;rw [if_neg aA,if_pos aA]
   exact dB [[]] Tryz.results10 rfl rfl Sub.empty ⟨.slice none 0 0,[],[],by rw [O],rfl,Own.nil _ _,fun _=>rfl,fun h=>by rw [O] at h;exact absurd h (by decide)⟩
  ·have ai:J.length=n:=aA
   have X:oY (n:Int) l (k:Int) J.length=0:=by unfold oY;rw [if_neg aA,if_neg aA]
   have Y:k<J.length:=aA
   have aa:J.getD k false=J[k]:=by simp [List.getD_eq_getElem?_getD,Y]
   refine bZ kh6<|aV fun kh9=>aG fun kh10=>c7 Tryz.isAgg37 rfl (rdA rfl)<|aB 1 rfl ?_
   have ap:=hb (gX Y)
   obtain ⟨bi,oi,rfl,ak,aj⟩:=ap
   refine f_Q (aM n4 rfl rfl (oi+k))<|f_Q (aH Tryz.isAgg4 rfl (eC (enc:= .bool) ak aj Y))<|aB 1 rfl<|aD kh10<|e8 rfl (fun c25=>?_) (fun c25=>?_)
   ·refine aG fun ab=>f_S (bX qV aA rfl rfl rfl fun ae=>?_);refine cN eV rfl<|c7 Tryz.isAgg3 rfl (rdA rfl) ?_
    refine f_S (aW Tryz.call26 rfl (fun Z F=>i7 ae 0 1 n 18446744073709551615 Z (fK (b:=ae) F (cs:=[.int .u64 18446744073709551615]) (fun j v hj=>hj)) aA) ?_);rintro _ _ ⟨bd,rfl,rfl⟩;dsimp only [aK,aJ];refine aB 2 rfl<|aD ab<|aZ<|dA ?_
    have hf:J[k]=false:=by simpa using c25
    exact dB [[(bd,blk (eT (List.replicate n INF)) 46)]] Tryz.results10 rfl rfl (by rw [← u64s_rep];exact aL aP) ⟨_,_,List.replicate n INF,by rw [X],rfl,own_dist aO hg.n1.2,fun h=>absurd X h,fun _=>by rw [Int.toNat_natCast,Int.toNat_natCast,aa,hf,if_neg (by decide)]⟩
   ·refine bZ kh9<|aG fun kh12=>f_Q (aQ (vs:=[_,_]) Tryz.isAgg24 Tryz.sizeOf24 rfl rfl ⟨(rdA rfl),(rdA rfl),trivial⟩)<|aB 1 rfl ?_
    refine f_S (aW Tryz.call27 rfl (fun Z F=>q7 n A l cap false k Z (hr.up0 F) hg ad) ?_);rintro _ _ ⟨bx,bd,m1,rfl,rfl,ao⟩;dsimp only [aK,aJ];refine f_Q (mH rfl rfl) ?_;refine f_S (d5 [m1] _ Tryz.call28 rfl (aL Sub.refl) (fun Z F=>all_spec n A l cap false (pW l J) k bx bd (D0 n k) (B0 n) (T0 n k) [] m1 29 [.pointer (some ⟨b5,0,none⟩),.pointer (some ⟨b3,0,none⟩)] Z (hr.up F) hg ao (jX ad) Tryz.call29 (fun w' hs i hi=>Win1_spec n A (some ⟨bi,oi,none⟩) l J cap cb b5 b3 i w' (heldIn F hs) (heldIn F hs) (ro_keep hr F.lt (F.chain hs)) (ro_keep hb F.lt (F.chain hs)) hi hg ai) F.owns) ?_);rintro _ _ ⟨d2,by2,T2,o2,m2,rfl,rfl,ah,U,ac⟩;dsimp only [aK,aJ];refine aB 2 rfl<|aD kh12<|aZ ?_
    have hf:J[k]=true:=by simpa using c25
    obtain ⟨bo,bb,bH,vs,ms,hm,ag,hR,hH⟩:=ah
    exact dB [[(bd,blk (eT d2) 46)]] Tryz.results10 rfl rfl (Sub.pickF (m:=m2) ag (by unfold jA;dsimp only [aK,aJ];exact aL aP)) ⟨_,_,d2,by rw [X],rfl,own_dist U.ld hg.n1.2,fun h=>absurd X h,fun _=>by rw [Int.toNat_natCast,Int.toNat_natCast,aa,hf,if_pos rfl];exact ⟨U.done ac (hg.src _) (hg.dst _) (hg.wt _),U.bound (hg.wts _) hg.n1.2 ac⟩⟩
end Go.Proofs.YthpkelafioikaaaGreat
namespace Go.Proofs.YthpkelafioikaaaGreat
open Go Go.RowKit Fly
set_option linter.unusedVariables false
set_option linter.unusedSimpArgs false
structure Mx where
 lv:Int
 cl:Int
 ep:Int
 A:Option Addr
 D:List Int
 cap:Nat
def gW (m:Mx):List Value:=[.int .i64 m.lv,.int .i64 m.cl,.int .i64 m.ep,.slice m.A m.D.length m.cap]
theorem kC (m:Mx):(gW m).length=4:=rfl
structure GN (S:Nat→Prop) (w:World) (n:Nat) (A:Option Addr) (l:List Arc) (Ab:Option Addr) (bs:List Int) (Ac:Option Addr) (R:List Row):Prop where
 r:Ro S w A (l.flatMap cH)
 ok:∀ x∈l,eN x
 ns:NestRo S w Ab bs Ac R
 o:NestOk n l bs (bJ R)
theorem GN.up0 {S:Nat→Prop} {w0 w:World} {m:Seg} {n:Nat} {A:Option Addr} {l:List Arc} {J:Option Addr} {bs:List Int} {F:Option Addr} {R:List Row} (h:GN S w0 n A l J bs F R) (hp:Hp S w0 m w):GN (Fr w []) w n A l J bs F R:=
 ⟨h.r.up0 hp,h.ok,h.ns.up0 hp,h.o⟩
structure MRows (B:List Int) (Q:Nat→Nat→Int→Prop) (D:List Int) (i:Nat):Prop where
 len:D.length=i*B.length
 at_:∀ a j,a<i→(ha:a<B.length)→(hj:j<B.length)→Q B[a].toNat B[j].toNat (dg D (a*B.length+j))
theorem MRows.nil (B:List Int) (Q:Nat→Nat→Int→Prop):MRows B Q [] 0:=⟨aO,fun a j h=>aA⟩
def j8 (B W:List Int):List Int:=B.map fun u=>dg W u.toNat
theorem rowD_len (B W:List Int):(j8 B W).length=B.length:=by simp [j8]
theorem MRows.next {B:List Int} {Q:Nat→Nat→Int→Prop} {D W:List Int} {i:Nat} (h:MRows B Q D i) (hi:i<B.length) (hq:∀ j (hj:j<B.length),Q B[i].toNat B[j].toNat (dg W B[j].toNat)):MRows B Q (D++j8 B W) (i+1) where
 len:=by rw [List.length_append,h.len,rowD_len,Nat.succ_mul]
 at_ a j hai ha hj:=by
  by_cases e:a=i
  ·subst e
   have:dg (D++j8 B W) (a*B.length+j)=dg W B[j].toNat:=by
    show (D++j8 B W).getD _ _=_
    rw [List.getD_eq_getElem?_getD,List.getElem?_append_right (by rw [h.len];omega),h.len,Nat.add_sub_cancel_left];simp [j8,hj]
   rw [this];exact hq j hj
  ·have hlt:a*B.length+j<D.length:=by
    rw [h.len];have:(a+1)*B.length≤i*B.length:=Nat.mul_le_mul_right _ aA
    rw [Nat.succ_mul] at this;omega
   have:dg (D++j8 B W) (a*B.length+j)=dg D (a*B.length+j):=by
    show (D++j8 B W).getD _ _=D.getD _ _
    rw [List.getD_eq_getElem?_getD,List.getD_eq_getElem?_getD,List.getElem?_append_left hlt]
   rw [this];exact h.at_ a j aA ha hj
theorem rowD_take {B W:List Int} {j:Nat} (hj:j<B.length):j8 (B.take (j+1)) W=j8 (B.take j) W++[dg W B[j].toNat]:=by
 unfold j8;rw [List.take_succ_eq_append_getElem hj,List.map_append];rfl
theorem u64s_append (a b:List Int):eT (a++b)=eT a++eT b:=by simp [eT]
theorem lD (l:List Arc):l.map (trn false)=l:=by
 induction l with
 |nil=>rfl
 |cons x l ih=>rw [List.map_cons,ih];rfl
theorem u64_len1 {E:TypeId} {v:Value} {l:List Int} {x:Int} {m:Seg}:Own E 1 v (l.length+1) (eT l++[.int .u64 x]) m=Own E 1 v (l++[x]).length (eT (l++[x])) m:=by rw [u64s_append,List.length_append];rfl
def mV (L:List Int) (c:Int) (n k:Nat):List Bool:=(List.range n).map fun v=>decide (v<k)&&decide (L.getD v 0=c)
theorem pX (L:List Int) (c:Int) (n k:Nat):(mV L c n k).length=n:=by simp [mV]
theorem inTo_zero (L:List Int) (c:Int) (n:Nat):mV L c n 0=List.replicate n false:=by
 refine List.ext_getElem (by simp [mV]) fun i h1 h2=>?_;simp [mV]
theorem inTo_next {L:List Int} {c:Int} {n k:Nat} (hk:k<n):(mV L c n k).set k (decide (L.getD k 0=c))=mV L c n (k+1):=by
 refine List.ext_getElem (by simp [mV]) fun i h1 h2=>?_;rw [List.getElem_set];simp only [mV,List.getElem_map,List.getElem_range]
 by_cases e:k=i
 ·subst e;simp
 ·rw [if_neg e]
  congr 1
  exact decide_eq_decide.2 aA
theorem inTo_at {L:List Int} {c:Int} {n v:Nat} (hv:v<n):(mV L c n n).getD v false=decide (L.getD v 0=c):=by
 simp [mV,List.getD_eq_getElem?_getD,hv]
theorem nA {n:Nat} {L:List Int} {c:Int} {l:List Arc} (hg:∀ k (hk:k<l.length),0≤l[k].src∧l[k].src<(n:Int)∧0≤l[k].dst∧l[k].dst<(n:Int)) {v:Int} (h:v∈bdL L c l):0≤v∧v<(n:Int):=by
 obtain ⟨a,ha,hb⟩:=kH.1 h
 obtain ⟨j,hj,rfl⟩:=List.mem_iff_getElem.1 ha
 have:=hg j hj
 rcases (jJ.1 hb).2 with ⟨_,e⟩|⟨_,e⟩<;>omega
theorem nX (L:List Int) (c:Int) (l:List Arc):(bdL L c l).length≤2*l.length:=by
 have h1:=bdR_len L c l
 have h2:=lN (iU (bdR L c l))
 rw [fP] at h2
 unfold bdL;omega
theorem mul_q {a b:Nat} (h:a*b≤9223372036854775807):IntKind.i64.wrap ((a:Int)*(b:Int))=((a*b:Nat):Int):=by
 rw [← Int.natCast_mul];exact d8 aA
theorem pW_in {n:Nat} {l:List Arc} {L:List Int} {c:Int} (hg:∀ k (hk:k<l.length),0≤l[k].src∧l[k].src<(n:Int)∧0≤l[k].dst∧l[k].dst<(n:Int)) {i:Nat} (hi:i<l.length):pW l (mV L c n n) i=decide (L.getD l[i].dst.toNat 0=c):=by
 have:=hg i hi
 unfold pW
 rw [List.getElem?_eq_getElem hi];exact inTo_at aA
theorem within_row {n:Nat} {l:List Arc} {L:List Int} {c:Int} {W:List Int} (hg:∀ k (hk:k<l.length),0≤l[k].src∧l[k].src<(n:Int)∧0≤l[k].dst∧l[k].dst<(n:Int)) {s:Nat} (hs:L.getD s 0=c) (h:IsD n (l.map (trn false)) (pW l (mV L c n n)) s W) {v:Nat} (hv:v<n):IsB l (pI l L c) s v (dg W v):=by
 have h1:=h.isB hv
 rw [lD] at h1;exact h1.inner (fun i hi=>pW_in hg hi) hs
theorem wrap_q {a:Nat} (h:a≤9223372036854775807):IntKind.i64.wrap (a:Int)=(a:Int):=d8 aA
def wtL (l:List Arc) (arcs:List Int):List Int:=arcs.map fun i=>((l[i.toNat]?).map (·.wt)).getD 0
def w32s (l:List Int):List Value:=l.map (.int .u32 ·)
theorem w32s_append (a b:List Int):w32s (a++b)=w32s a++w32s b:=by simp [w32s]
theorem wtL_len (l:List Arc) (arcs:List Int):(wtL l arcs).length=arcs.length:=by simp [wtL]
theorem wtL_next {l:List Arc} {arcs:List Int} {k i:Nat} (hk:k<arcs.length) (hi:i<l.length) (e:arcs[k]=(i:Int)):wtL l (arcs.take (k+1))=wtL l (arcs.take k)++[l[i].wt]:=by
 unfold wtL;rw [List.take_succ_eq_append_getElem hk,List.map_append]
 simp [e,hi]
theorem wtL_at {l:List Arc} {arcs:List Int} {k i:Nat} (hk:k<arcs.length) (hi:i<l.length) (e:arcs[k]=(i:Int)):(wtL l arcs)[k]? =some l[i].wt:=by
 simp [wtL,hk,e,hi]
def ArcsIn (l:List Arc) (arcs:List Int):Prop:=∀ x∈arcs,∃ i:Nat,x=(i:Int)∧i<l.length
theorem mX (p:Arc→Bool) (l:List Arc):ArcsIn l (gB p l):=fun x hx=>by
 obtain ⟨i,hi,e,_⟩:=idxs_mem hx
 exact ⟨i,e,hi⟩
theorem fr_of {S:Nat→Prop} {w0 w:World} {own fr:List Seg} {b:Nat} {o:Obj} (hp:Hp S w0 (own++fr).flatten w) (hm:(b,o)∈fr.flatten):Fr w own b∧w.heap[b]? =some o:=by
 rw [List.flatten_append] at hp;refine ⟨⟨hp.key_lt (List.mem_append_right _ hm),fun hx=>?_⟩,hp.own b o (List.mem_append_right _ hm)⟩;have:=hp.nodup
 rw [List.map_append] at this;exact (List.nodup_append.1 this).2.2 b hx b (List.mem_map.2 ⟨_,hm,rfl⟩) rfl
theorem roBlk {S:Nat→Prop} {w:World} {b:Nat} {cs sp:List Value} {T:TypeId} (F:S b) (hb:w.heap[b]? =some (blk (cs++sp) T)):Ro S w (some ⟨b,0,none⟩) cs:=fun _=>
 ⟨b,0,rfl,F,fun j v hj=>by rw [Nat.zero_add];simp [World.cell?,hb];rw [List.getElem?_append_left (List.getElem?_eq_some_iff.1 hj).1];exact hj⟩
theorem roFr {S:Nat→Prop} {w0 w:World} {own fr:List Seg} {b:Nat} {cs:List Value} {T:TypeId} {f:Seg→List Seg} [h:At fr b (blk cs T) f] (hp:Hp S w0 (own++fr).flatten w):Ro (Fr w own) w (some ⟨b,0,none⟩) cs:=by
 obtain ⟨h1,h2⟩:=fr_of hp h.mem
 exact roBlk (sp:=[]) h1 (by rw [List.append_nil];exact h2)
theorem Own.fr {S:Nat→Prop} {w0 w:World} {own fr out:List Seg} {E sz len J cap:Nat} {A:Option Addr} {cs:List Value} {m:Seg} (h:Own E sz (.slice A J cap) len cs m) (hp:Hp S w0 (own++fr).flatten w) [p:Pick fr m out]:Ro (Fr w own) w A cs:=fun F=>by
 rcases h.2 with ⟨_,rfl,_⟩|⟨b,c,sp,e,rfl,_⟩
 ·exact absurd (List.eq_nil_of_length_eq_zero (by simpa using h.1)) F
 ·cases e
  obtain ⟨h1,h2⟩:=fr_of hp (p.perm.mem_iff.2 (List.mem_append_left _ (List.mem_singleton.2 rfl)))
  exact roBlk h1 h2 F
section
variable {P:Program} {n:Nat} {S:Nat→Prop} {w0:World} {env:Env} {segs:List Seg} {K:Value→List Seg→Prop} {d:Option Tmp} {ty:TypeId} {pos:String} {af:Array Edge} {g:Option (Nat×Bool)}
theorem o_make0 {T E sz F:Nat} {z:List Value} {x y:Operand} {O U:IntKind} {N:Int} (J:ElT P T E sz F z) (hx:ev env x=some (.int O 0)) (hy:ev env y=some (.int U N)) (m:Nat) (hm:N=(m:Int)) (hb:F*m≤281474976710656)
  (X:m≤9223372036854775807) (k:∀ v ms,Own E sz v 0 [] ms→K v (ms::segs)):Does P n S w0 env segs ⟨d,.makeSlice T x y,ty,pos,af,g⟩ K:=
 gP fun a w ha hp=>by
  obtain ⟨i,v,hi,hz,hc,rfl,rfl⟩:=J.i
  subst hm;have hr:=run_make (P:=P) w T E i v J.und hi hz O U 0 m (Int.le_refl _) aA (by rw [← Int.natCast_mul];omega) aA
  rw [Int.toNat_natCast,hc,← J.len,kZ z m (by rw [J.len];exact J.pos)] at hr;refine ⟨.slice (some ⟨w.heap.size,0,none⟩) 0 m,[(w.heap.size,blk (List.replicate m z).flatten E)]::segs,w.alloc (blk (List.replicate m z).flatten E),.inl ?_,hp.alloc _,k _ _ ⟨aO,.inr ⟨_,m,(List.replicate m z).flatten,rfl,aO,Nat.zero_le _,X,by simp [J.len]⟩⟩⟩;simp only [execOp,ha.eval hx,ha.eval hy,hr,Sem.run_bind,Result.andThen_ok,Sem.run_pure];rfl
end
section
variable {P:Program} {n:Nat} {env:Env} {segs:List Seg}
theorem f_fin1c {fn:Func} {own:List Seg} {w:World} {Φ:Value→List Seg→Prop} (own' :List Seg) {r:Tmp} {T:TypeId} {b sz:Nat} {vs:List Value} (hr:fn.results= #[.cell r T]) (hv:Fly.look env r=some (.pointer (some ⟨b,0,none⟩)))
  (U:∀ w,(isAgg T).run P w= .ok true w) (J:∀ w,(sizeOf T).run P w= .ok sz w) (hl:vs.length=sz) (F:Rds (Fr w own) w segs b 0 vs) (hs:Sub segs own') (O:Φ (.agg vs.toArray) own'):
  Wq n (Fr w own) w (bodyPost P fn (f5 w own Φ) .ret) env segs:=
 fun a w' ha hp=>⟨ha.defers,.agg vs.toArray,by
  have:=Fly.run_loadCellsFrom (P:=P) (w:=w') (b:=b) (i:=0) vs 0 #[] (by simpa using F.cells hp)
  subst hl
  simp [results,hr,Array.getD_eq_getD_getElem?,ha.get _ _ hv,asAddr,loadVar,U,J,loadCells,this],_,own',rfl,hp.sub hs,O⟩
end
end Go.Proofs.YthpkelafioikaaaGreat
namespace Go.Proofs.YthpkelafioikaaaGreat
open Go Go.RowKit Fly
set_option maxRecDepth 100000
set_option maxHeartbeats 4000000
set_option linter.all false
def lkCs (a:Arc):List Value:=[.int .i64 a.dst,.int .u64 a.wt]
theorem lkCs_len (a:Arc):(lkCs a).length=2:=rfl
def hZ (E:List Arc) (v:Nat):List Arc:=E.filter fun a=>decide (a.src.toNat=v)
theorem outsOf_add (E:List Arc) (a:Arc) (v:Nat):hZ (E++[a]) v=if a.src.toNat=v then hZ E v++[a] else hZ E v:=by
 unfold hZ;rw [List.filter_append]
 by_cases h:a.src.toNat=v
 ·simp [h]
 ·simp [h]
theorem outs_rows (E:List Arc) (v:Nat):∀ k,k≤E.length→hZ (E.take k) v=(eR (E.take k) v).map fun i=>E[i.toNat]?.getD ⟨0,0,0⟩
 |0,_=>by simp [hZ,eR,gB]
 |k+1,h=>by
  have ih:=outs_rows E v k aA
  have e : E.take (k + 1) = E.take k ++ [E[k]'aA] := List.take_succ_eq_append_getElem aA
  by_cases hv : (E[k]'aA).src.toNat = v
  ·have h1:eR (E.take (k+1)) v=eR (E.take k) v++[(k:Int)]:=by unfold eR;exact nU aA (by simp [hv])
   rw [h1,List.map_append,← ih,e,outsOf_add,if_pos hv];simp [show k<E.length by omega]
  ·have h1:eR (E.take (k+1)) v=eR (E.take k) v:=by unfold eR;exact lU aA (by simp [hv])
   rw [h1,← ih,e,outsOf_add,if_neg hv]
theorem outs_row (E:List Arc) (v:Nat):hZ E v=(eR E v).map fun i=>E[i.toNat]?.getD ⟨0,0,0⟩:=by
 have:=outs_rows E v E.length (Nat.le_refl _)
 rwa [List.take_length] at this
theorem outs_len (E:List Arc) (v:Nat):(hZ E v).length=(eR E v).length:=by rw [outs_row];simp
theorem outs_at {E:List Arc} {v j:Nat} (hj:j<(hZ E v).length):∃ (i:Nat) (hi:i<E.length) (hr:j<(eR E v).length),(eR E v)[j]=(i:Int)∧E[i].src.toNat=v∧(hZ E v)[j]=E[i]:=by
 have hr:j<(eR E v).length:=by rw [← outs_len];exact hj
 obtain ⟨i,hi,e1,e2⟩:=rowOf_at hr
 refine ⟨i,hi,hr,e1,e2,?_⟩;have h:=outs_row E v
 have h2:(hZ E v)[j]? =((eR E v).map fun i=>E[i.toNat]?.getD ⟨0,0,0⟩)[j]? :=by rw [h]
 rw [List.getElem?_eq_getElem hj,List.getElem?_map,List.getElem?_eq_getElem hr,e1,Option.map_some,Int.toNat_natCast,List.getElem?_eq_getElem hi,Option.getD_some] at h2;exact Option.some.inj h2
theorem outs_le (E:List Arc) (v:Nat):(hZ E v).length≤E.length:=List.length_filter_le _ _
def LkOk (n:Nat) (E:List Arc):Prop:=∀ a∈E,(0≤a.src∧a.src<(n:Int))∧(0≤a.dst∧a.dst<(n:Int))∧0≤a.wt∧a.wt≤INF
theorem LkOk.add {n:Nat} {E:List Arc} (h:LkOk n E) {a:Arc} (ha:(0≤a.src∧a.src<(n:Int))∧(0≤a.dst∧a.dst<(n:Int))∧0≤a.wt∧a.wt≤INF):LkOk n (E++[a]):=fun x hx=>by
 rcases List.mem_append.1 hx with hx|hx
 ·exact h x hx
 ·rw [List.mem_singleton.1 hx];exact ha
theorem LkOk.wt {n:Nat} {E:List Arc} (h:LkOk n E):∀ x∈E,0≤x.wt:=fun x hx=>(h x hx).2.2.1
theorem LkOk.dst {n:Nat} {E:List Arc} (h:LkOk n E):∀ i (hi:i<E.length),E[i].dst.toNat<n:=fun i hi=>by have:=(h _ (List.getElem_mem hi)).2.1;omega
theorem LkOk.src {n:Nat} {E:List Arc} (h:LkOk n E):∀ i (hi:i<E.length),E[i].src.toNat<n:=fun i hi=>by have:=(h _ (List.getElem_mem hi)).1;omega
structure LinkR (T:TypeId) (n:Nat) (E:List Arc) (ents:List (Int×Value×Nat)) (vs:List Value) (ms:List Seg):Prop where
 lv:vs.length=n
 lm:ms.length=n
 own : ∀ (v : Nat) (h : v < n), Own T 2 (vs[v]'(lv.symm ▸ h)) (hZ E v).length ((hZ E v).flatMap lkCs) (ms[v]'(lm.symm ▸ h))
 get : ∀ (v : Nat) (h : v < n), (eS ents (v : Int)).getD (.slice none 0 0) = vs[v]'(lv.symm ▸ h)
theorem LinkR.start (T:TypeId) (n:Nat):LinkR T n [] [] (List.replicate n (.slice none 0 0)) (List.replicate n []):=
 ⟨aO,aO,fun v h=>by simp only [List.getElem_replicate];exact Own.nil T 2,fun v h=>by simp [eS]⟩
theorem LinkR.split {T:TypeId} {n:Nat} {E:List Arc} {ents:List (Int×Value×Nat)} {vs:List Value} {ms:List Seg} (h:LinkR T n E ents vs ms) {v:Nat} (hv:v<n):
  ∃ val m G,(eS ents (v:Int)).getD (.slice none 0 0)=val∧Own T 2 val (hZ E v).length ((hZ E v).flatMap lkCs) m∧ms.flatten.Perm (m++G)∧
   ∀ (a:Arc) F m' k,a.src.toNat=v→Own T 2 F ((hZ E v).length+1) ((hZ E v).flatMap lkCs++lkCs a) m'→LinkR T n (E++[a]) (fW ents (v:Int) F k) (vs.set v F) (ms.set v m')∧(m' ++G).Perm (ms.set v m').flatten:=by
 have hm:v<ms.length:=by rw [h.lm];exact hv
 refine ⟨_,_,_,h.get v hv,h.own v hv,gL ms v hm,fun a F m' k ha ho=>⟨⟨by simp [h.lv],by simp [h.lm],fun u J=>?_,fun u J=>?_⟩,?_⟩⟩
 ·simp only [List.getElem_set]
  rw [outsOf_add]
  by_cases e:v=u
  ·subst e
   rw [if_pos rfl,if_pos rfl,if_pos ha,List.length_append,List.flatMap_append]
   simpa using ho
  ·rw [if_neg e,if_neg e,if_neg (fun e2=>e (ha.symm.trans e2))]
   exact h.own u J
 ·rw [jI,List.getElem_set]
  by_cases e:v=u
  ·subst e;rw [if_pos rfl,if_pos rfl];rfl
  ·rw [if_neg (fun e2=>e aA),if_neg e];exact h.get u J
 ·have:=gL (ms.set v m') v (by simpa using hm)
  rw [List.getElem_set_self,List.eraseIdx_set_eq] at this;exact this.symm
abbrev iO (x:Int):Value:= .int .i64 x
theorem NX.skipQ {n:Nat} {e:List Arc} {p:Nat→Bool} {s:Nat} {d0 d by_:List Int} {T:List (Option Int)} {o:List Nat} {v j:Nat} {a:Int} (h:NX n e p s d0 v a o j d by_ T) (hj:j<(eR e v).length) {i u:Nat} (hi:i<e.length) (hr:(eR e v)[j]=(i:Int)) (F:e[i].src.toNat=v) (J:e[i].dst.toNat=u) (hn:¬ fU a e[i].wt<dg d u):NX n e p s d0 v a o (j+1) d by_ T:=
 h.skip hj hi hr F fun _=>by rw [J];have:=dadd_le a e[i].wt;omega
theorem rep_flatC (n:Nat) (v:Value):List.replicate n v=(List.replicate n [v]).flatten:=by
 induction n with
 |zero=>rfl
 |succ n ih=>rw [List.replicate_succ,List.replicate_succ,List.flatten_cons,← ih];rfl
end Go.Proofs.YthpkelafioikaaaGreat
